/- The slots after a region of open order, as puts on what stood there: no list of them need be written. -/
import Derived.Test.YtjfnpokebaagmaaGreatDoorRegG
namespace Go.Proofs.YtjfnpokebaagmaaGreatDoor.Xi
open Go Go.RowKit
set_option linter.unusedVariables false
/-- The first operation that puts a slot wins. -/
def putsR (v : Nat → Value) : List Oper → Nat → Array Value → Array Value
  | [], _, t => t
  | o :: l, i, t => match o.dst with
    | some d => (putsR v l (i + 1) t).setIfInBounds d (v i)
    | none => putsR v l (i + 1) t
theorem putsR_size (v : Nat → Value) : ∀ (l : List Oper) (i : Nat) (t : Array Value), (putsR v l i t).size = t.size
  | [], _, _ => rfl
  | o :: l, i, t => by
    unfold putsR
    split
    · rw [Array.size_setIfInBounds, putsR_size v l]
    · exact putsR_size v l _ _
theorem putsR_at (v : Nat → Value) (t : Array Value) (k : Nat) (hk : k < t.size) : ∀ (l : List Oper) (i : Nat), (putsR v l i t).getD k undef = match slotGo k l i with
    | some m => v m
    | none => t.getD k undef
  | [], _ => rfl
  | o :: l, i => by
    have ih := putsR_at v t k hk l (i + 1)
    unfold putsR slotGo
    cases hd : o.dst with
    | none => exact ih
    | some d =>
      simp only
      cases hb : Nat.beq d k with
      | true =>
        have e : d = k := beq_iff.1 hb
        subst e
        simp only [cond_true, Array.getD_eq_getD_getElem?]
        rw [Array.getElem?_setIfInBounds_self_of_lt (by rw [putsR_size]; exact hk)]
        rfl
      | false =>
        have e : d ≠ k := fun e => by rw [e, beq_iff.2 rfl] at hb; cases hb
        simp only [cond_false]
        rw [← ih]
        simp only [Array.getD_eq_getD_getElem?]
        rw [Array.getElem?_setIfInBounds_ne e]
theorem finG_puts {Γ : Type} (ops : Array Oper) (t0 : Array Value) (val : Γ → Nat → Value) (γ : Γ) : finG ops t0 val t0.size γ = putsR (val γ) ops.toList 0 t0 := by
  apply Array.ext
  · rw [putsR_size]; simp [finG]
  · intro k h1 h2
    have hk : k < t0.size := by rw [putsR_size] at h2; exact h2
    have e := putsR_at (val γ) t0 k hk ops.toList 0
    rw [Array.getD_eq_getD_getElem?, Array.getElem?_eq_getElem h2, Option.getD_some] at e
    rw [e]
    simp only [finG, List.getElem_toArray, List.getElem_map, List.getElem_range]
    unfold tmG slotOf
    cases slotGo k ops.toList 0 <;> rfl
/-- The slots afterwards, as a list. -/
def putsL (v : Nat → Value) : List Oper → Nat → List Value → List Value
  | [], _, t => t
  | o :: l, i, t => match o.dst with
    | some d => (putsL v l (i + 1) t).set d (v i)
    | none => putsL v l (i + 1) t
theorem putsR_list (v : Nat → Value) : ∀ (l : List Oper) (i : Nat) (t : List Value), putsR v l i t.toArray = (putsL v l i t).toArray
  | [], _, _ => rfl
  | o :: l, i, t => by
    unfold putsR putsL
    cases o.dst with
    | none => exact putsR_list v l (i + 1) t
    | some d => simp only [putsR_list v l (i + 1) t, List.setIfInBounds_toArray]
/-- The same by the slots alone. -/
def putsD (v : Nat → Value) : List (Option Nat) → Nat → List Value → List Value
  | [], _, t => t
  | o :: l, i, t => match o with
    | some d => (putsD v l (i + 1) t).set d (v i)
    | none => putsD v l (i + 1) t
theorem putsL_dst (v : Nat → Value) : ∀ (l : List Oper) (i : Nat) (t : List Value), putsL v l i t = putsD v (l.map (·.dst)) i t
  | [], _, _ => rfl
  | o :: l, i, t => by
    unfold putsL
    rw [List.map_cons]
    unfold putsD
    rw [putsL_dst v l (i + 1) t]
    cases o.dst <;> rfl
theorem finG_dst {Γ : Type} (ops : Array Oper) (t : List Value) (val : Γ → Nat → Value) (γ : Γ) (ds : List (Option Nat)) (hds : ops.toList.map (·.dst) = ds) (l : List Value) (hl : putsD (val γ) ds 0 t = l) : finG ops t.toArray val t.toArray.size γ = l.toArray := by
  rw [finG_puts, putsR_list, putsL_dst, hds, hl]
theorem finG_list {Γ : Type} (ops : Array Oper) (t : List Value) (val : Γ → Nat → Value) (γ : Γ) : finG ops t.toArray val t.toArray.size γ = (putsL (val γ) ops.toList 0 t).toArray := by
  rw [finG_puts, putsR_list]
end Go.Proofs.YtjfnpokebaagmaaGreatDoor.Xi
