/- A program logic over the model: contracts of calls, proved from the model alone, without conditions. -/
import Derived.Test.YtghoaglolhdoeaaDoorAb1
set_option linter.unusedSimpArgs false
set_option linter.unusedVariables false
namespace Go.Ab
open Go

/-- The marks that ranges over functions have left among the deferred calls. -/
def Marks (K : Kon) (C : Ctx) (ds : List Deferred) : Prop :=
  ∃ Ds : List Nat, ds = Ds.map (fun D => { target := .collected D, args := #[] }) ∧ Ds.Nodup ∧
    ∀ D ∈ Ds, C.w.heap[D]? = some (.deferred (some [])) ∧ ¬ C.bad D ∧ K.C0.w.heap.size ≤ D

theorem Marks.mono {K : Kon} {C C' : Ctx} (e : Ext C C') {ds : List Deferred} (h : Marks K C ds) : Marks K C' ds := by
  obtain ⟨Ds, h1, h2, h3⟩ := h
  refine ⟨Ds, h1, h2, fun D hD => ?_⟩
  obtain ⟨a, b, c⟩ := h3 D hD
  have := e.pers D b (heap_lt a)
  exact ⟨this.1.trans a, this.2, c⟩

structure St (K : Kon) (C : Ctx) (N : Nat) (F : Frm) (a : Act) : Prop where
  hp : Hp K C
  size : a.tmps.size = N
  fr : FrOk C F a.tmps
  marks : Marks K C a.defers

structure Env where
  P : Program
  G : List (Nat × List Value)
  n0 : Nat
  N : Nat
  rd : Bool

def rnd (rb : Option Nat) : Fence := { Fence.wide with round := rb }
theorem rnd_none : rnd none = Fence.wide := rfl
theorem rnd_inRound (l : Nat) : Fence.wide.inRound l = rnd (some l) := rfl

def post (K : Kon) (N : Nat) (Q : Exit → Frm → Heap → Prop) : Exit → Act → World → Prop :=
  fun e a' w' => ∃ F' C', C'.w = w' ∧ St K C' N F' a' ∧ Q e F' C'.H

/-- From the state (F, H) the code ends in Q. -/
def AWp (E : Env) (c : Code) (Q : Exit → Frm → Heap → Prop) (F : Frm) (H : Heap) : Prop :=
  ∀ (K : Kon) (C : Ctx) (a : Act), K.C0.H.length = E.n0 → K.rb.isSome = E.rd → K.G = E.G → St K C E.N F a → C.H = H →
    c.wpIn (rnd K.rb) 0 E.P (post K E.N Q) a C.w

def thenQ (next : Frm → Heap → Prop) (Q : Exit → Frm → Heap → Prop) : Exit → Frm → Heap → Prop
  | .normal, F, H => next F H
  | e, F, H => Q e F H

def blockQ (id : Nat) (Q : Exit → Frm → Heap → Prop) : Exit → Frm → Heap → Prop
  | .exit id', F, H => if id' = id then Q .normal F H else Q (.exit id') F H
  | e, F, H => Q e F H

section rules
variable {E : Env} {Q : Exit → Frm → Heap → Prop} {F : Frm} {H : Heap}

theorem awp_mono {c : Code} {Q' : Exit → Frm → Heap → Prop} (h : AWp E c Q F H) (hq : ∀ e F H, Q e F H → Q' e F H) : AWp E c Q' F H :=
  fun K C a h1 h2 h3 h4 h5 => wpIn_mono (h K C a h1 h2 h3 h4 h5) fun e a w ⟨F', C', h1, h2, h3⟩ => ⟨F', C', h1, h2, hq _ _ _ h3⟩

theorem awp_skip (h : Q .normal F H) : AWp E .skip Q F H := fun K C a _ _ _ h4 h5 => wpIn_skip ⟨F, C, rfl, h4, h5 ▸ h⟩
theorem awp_label {l : Nat} (h : Q .normal F H) : AWp E (.label l) Q F H := fun K C a _ _ _ h4 h5 => wpIn_label ⟨F, C, rfl, h4, h5 ▸ h⟩
theorem awp_exit {id : Nat} (h : Q (.exit id) F H) : AWp E (.exit id) Q F H := fun K C a _ _ _ h4 h5 => wpIn_exit ⟨F, C, rfl, h4, h5 ▸ h⟩
theorem awp_ret (h : Q .ret F H) : AWp E .ret Q F H := fun K C a _ _ _ h4 h5 => wpIn_ret ⟨F, C, rfl, h4, h5 ▸ h⟩

theorem awp_seq {x y : Code} (h : AWp E x (thenQ (AWp E y Q) Q) F H) : AWp E (.seq x y) Q F H := by
  intro K C a h1 h2 h3 h4 h5
  refine wpIn_seq (wpIn_mono (h K C a h1 h2 h3 h4 h5) ?_)
  rintro e a' w' ⟨F', C', rfl, g2, g3⟩
  cases e with
  | normal => exact g3 K C' a' h1 h2 h3 g2 rfl
  | _ => exact ⟨F', C', rfl, g2, g3⟩

theorem awp_block {id : Nat} {c : Code} (h : AWp E c (blockQ id Q) F H) : AWp E (.block id c) Q F H := by
  intro K C a h1 h2 h3 h4 h5
  refine wpIn_block (wpIn_mono (h K C a h1 h2 h3 h4 h5) ?_)
  rintro e a' w' ⟨F', C', rfl, g2, g3⟩
  cases e with
  | exit id' =>
    simp only [blockQ] at g3
    simp only [Exit.inBlock]
    split <;> rename_i hid
    · rw [if_pos hid] at g3; exact ⟨F', C', rfl, g2, g3⟩
    · rw [if_neg hid] at g3; exact ⟨F', C', rfl, g2, g3⟩
  | _ => exact ⟨F', C', rfl, g2, g3⟩

def ev (F : Frm) : Operand → AV
  | .tmp t => (F.lookup t).getD .any
  | .const (.agg cs) => .agg (cs.toList.map .raw)
  | .const v => .raw v
  | .global g => .raw (.pointer (some ⟨g, 0, none⟩))
  | .func f => .fn f [] []

theorem ev_ok {C : Ctx} {a : Act} (h : FrOk C F a.tmps) (x : Operand) : Vl C (ev F x) (a.eval x) := by
  cases x with
  | tmp t =>
    simp only [ev, Act.eval]
    cases hl : F.lookup t with
    | none => exact .any _
    | some v => exact h t v hl
  | const v =>
    cases v with
    | agg cs =>
      refine .agg (by simp) (fun k x hx => ?_)
      simp only [List.getElem?_map, Option.map_eq_some_iff, Array.getElem?_toList] at hx
      obtain ⟨y, hy, rfl⟩ := hx
      have hlt : k < cs.size := by
        rcases Nat.lt_or_ge k cs.size with h' | h'
        · exact h'
        · rw [Array.getElem?_eq_none h'] at hy; cases hy
      have : cs.getD k undef = y := by
        rw [Array.getElem?_eq_getElem hlt] at hy; cases hy; simp [hlt]
      rw [this]; exact .raw y
    | _ => exact .raw _
  | global g => exact .raw _
  | func f => exact .fn rfl rfl (fun k x hx => by simp at hx) (fun k x hx => by simp at hx)

theorem Vl.raw_inv {C : Ctx} {v v' : Value} (h : Vl C (.raw v) v') : v' = v := by cases h; rfl

theorem awp_cond {c : Operand} {x y : Code} {t : Bool} (hc : ev F c = .raw (.bool t)) (ht : t = true → AWp E x Q F H) (hf : t = false → AWp E y Q F H) :
    AWp E (.cond c x y) Q F H := by
  intro K C a h1 h2 h3 h4 h5
  have : a.eval c = .bool t := Vl.raw_inv (hc ▸ ev_ok h4.fr c)
  exact wpIn_cond_split this (fun e => ht e K C a h1 h2 h3 h4 h5) (fun e => hf e K C a h1 h2 h3 h4 h5)

/-- A loop, by an index that falls. -/
theorem wpIn_loop_idx {Fe : Fence} {n : Nat} {P : Program} {Q : Exit → Act → World → Prop} {c : Code} (I : Nat → Act → World → Prop)
    (round : ∀ j a w, I j a w → c.wpIn Fe n P (Exit.then (fun a' w' => ∃ j', j' < j ∧ I j' a' w') Q) a w) :
    ∀ j a w, I j a w → (Code.loop c).wpIn Fe n P Q a w := by
  intro j a w h0 b k cs hro hb hr
  have key : ∀ j a w, I j a w →
      ∃ e a' w', Q e a' w' ∧ ArrivesIn (Machine.fenced P Fe) P (lone (b.atR a (.code c :: .inLoop c :: k)) cs w) b k cs e a' w' := by
    intro j
    induction j using Nat.strongRecOn with
    | _ j ih =>
      intro a w hI
      obtain ⟨e, a₁, w₁, hq, harr⟩ := round j a w hI b (.inLoop c :: k) cs hro hb hr
      cases e with
      | normal =>
        obtain ⟨j', hlt, hI₁⟩ := hq
        obtain ⟨e₂, a₂, w₂, hq₂, harr₂⟩ := ih j' hlt a₁ w₁ hI₁
        exact ⟨e₂, a₂, w₂, hq₂, .of_steps (StepsIn.trans harr (.one (fenced_calm hb hr rfl) stepR_inLoop)) harr₂⟩
      | exit id => exact ⟨_, a₁, w₁, hq, .pass (x := .inLoop c) rfl (fun _ _ => .inl (by simp)) harr⟩
      | goto l => exact ⟨_, a₁, w₁, hq, .pass (x := .inLoop c) rfl (fun _ _ => .inl (by simp)) harr⟩
      | ret => exact ⟨_, a₁, w₁, hq, .pass (x := .inLoop c) rfl (fun _ _ => .inl (by simp)) harr⟩
      | panic ch => exact ⟨_, a₁, w₁, hq, .pass (x := .inLoop c) rfl (fun _ _ => .inl (by simp)) harr⟩
      | outgrown => exact ⟨_, a₁, w₁, hq, .pass (x := .inLoop c) rfl (fun _ _ => .inl (by simp)) harr⟩
  obtain ⟨e, a', w', hq, harr⟩ := key j a w h0
  exact ⟨e, a', w', hq, .of_steps (.one (fenced_calm hb hr rfl) stepR_loop) harr⟩

theorem awp_loop {ι : Type} {c : Code} (I : ι → Frm → Heap → Prop) (μ : ι → Nat) (i : ι) (h0 : I i F H)
    (round : ∀ i F H, I i F H → AWp E c (thenQ (fun F' H' => ∃ j, I j F' H' ∧ μ j < μ i) Q) F H) : AWp E (.loop c) Q F H := by
  intro K C a h1 h2 h3 h4 h5
  refine wpIn_loop_idx (fun j a w => ∃ i F C, C.w = w ∧ St K C E.N F a ∧ I i F C.H ∧ μ i = j) ?_ (μ i) a C.w ⟨i, F, C, rfl, h4, h5 ▸ h0, rfl⟩
  rintro j a w ⟨i, F, C, rfl, g1, g2, rfl⟩
  refine wpIn_mono (round i F C.H g2 K C a h1 h2 h3 g1 rfl) ?_
  rintro e a' w' ⟨F', C', rfl, k2, k3⟩
  cases e with
  | normal =>
    obtain ⟨j, hj, hlt⟩ := k3
    exact ⟨μ j, hlt, j, F', C', rfl, k2, hj, rfl⟩
  | _ => exact ⟨F', C', rfl, k2, k3⟩
end rules

end Go.Ab
