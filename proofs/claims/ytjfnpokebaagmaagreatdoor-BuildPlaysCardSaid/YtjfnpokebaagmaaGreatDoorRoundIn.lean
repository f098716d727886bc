/- A region in whatever order, inside a round of a range over a function. -/
import Derived.RangeFuncNested
import Derived.RangeFuncCalls
import Derived.OrdersIn
import Derived.TacticsIn
import Derived.Test.YtjfnpokebaagmaaGreatDoorXiV
namespace Go.Proofs.YtjfnpokebaagmaaGreatDoor.Xi
open Go Go.RowKit
set_option linter.unusedVariables false
theorem oper_in {l n : Nat} {P : Program} {o : Oper} {a : Act} {w : World} {K : Act → World → Prop} {Q : Exit → Act → World → Prop} (hd : ∀ c, o.op ≠ .defer c) (hr : ∀ r args w', (execOp a.eval o).run P w ≠ .ok (.row r args) w')
    (h : o.wp P a w K Q) : o.wpIn (Fence.wide.inRound l) n P a w K Q := by
  unfold Oper.wpIn
  refine ⟨fun _ _ => trivial, ?_⟩
  have e : (Fence.wide.inRound l).round = some l := rfl
  rw [e, Oper.semAt_some l a.eval o hd]
  unfold Oper.wp at h
  generalize (execOp a.eval o).run P w = r at *
  cases r with
  | ok x w' =>
    cases x with
    | value v => exact h
    | skip => exact h
    | defer d => exact h
    | enter f args => exact ⟨(fun h => (by cases h)), CallsIn.inRound l (callsIn_wide.2 h)⟩
    | row r args => exact absurd rfl (hr r args w')
    | _ => exact h.elim
  | halt x w' =>
    cases x <;> first | exact h | exact h.elim
/-- As any_inv, in a round. -/
theorem any_invIn {l n : Nat} {P : Program} {ops : Array Oper} {Q : Exit → Act → World → Prop} (J : (Nat → Bool) → Act → World → Prop)
    (hback : ∀ (i : Nat) (o : Oper), ops[i]? = some o → ∀ e ∈ o.after, Region.binds .any e = true → e.on < i)
    (hplain : ∀ (i : Nat) (o : Oper), ops[i]? = some o → o.guard = none ∧ ∀ c, o.op ≠ .defer c)
    (hstep : ∀ (L : Nat → Bool) a w i o (K : Act → World → Prop), Downward ops (fun j => L j = true) → J L a w → ops[i]? = some o → L i = false → (∀ e ∈ o.after, Region.binds .any e = true → L e.on = true) →
      (∀ a' w', J (fun j => if j = i then true else L j) a' w' → K a' w') → (∀ r args w', (execOp a.eval o).run P w ≠ .ok (.row r args) w') ∧ o.wp P a w K Q)
    (hend : ∀ (L : Nat → Bool) a w, (∀ j, j < ops.size → L j = true) → J L a w → Q .normal a w) :
    ∀ (fuel : Nat) (L : Array Bool) (a : Act) (w : World), L.size = ops.size → unl ops.size L ≤ fuel → Downward ops (fun j => L.getD j false = true) → J (fun j => L.getD j false) a w → wpAnyIn (Fence.wide.inRound l) n P .any ops Q fuel L a w := by
  have hready : ∀ L : Array Bool, L.size = ops.size → Region.ready .any ops L = [] → ∀ j, j < ops.size → L.getD j false = true := by
    intro L hL hr k
    induction k using Nat.strongRecOn with
    | _ k ih =>
      intro hk
      cases h : L.getD k false with
      | true => rfl
      | false =>
        have ho : ops[k]? = some ops[k] := Array.getElem?_eq_getElem hk
        have : k ∈ Region.ready .any ops L := by
          rw [mem_ready]
          refine ⟨by rw [getD_tf (by omega)]; exact h, _, ho, fun e he hb => ?_⟩
          have hlt := hback k _ ho e he hb
          exact ih e.on hlt (by omega)
        rw [hr] at this
        cases this
  intro fuel
  induction fuel with
  | zero =>
    intro L a w hL hu hcl hI
    have hfull : ∀ j, j < ops.size → L.getD j false = true := fun k hk => by
      cases h : L.getD k false with
      | true => rfl
      | false =>
        have := unl_set (i := k) hL hk (by rw [getD_tf (by omega)]; exact h)
        omega
    refine ⟨?_, hend _ a w hfull hI⟩
    cases hr : Region.ready .any ops L with
    | nil => rfl
    | cons i l =>
      have hi : i ∈ Region.ready .any ops L := by rw [hr]; simp
      obtain ⟨h1, o, ho, _⟩ := mem_ready.1 hi
      have hin : i < ops.size := (Array.getElem?_eq_some_iff.1 ho).1
      rw [getD_tf (by omega), hfull i hin] at h1
      cases h1
  | succ fuel ih =>
    intro L a w hL hu hcl hI
    refine ⟨fun hr => hend _ a w (hready L hL hr) hI, fun i hi => ?_⟩
    obtain ⟨h1, o, ho, hall⟩ := mem_ready.1 hi
    have hin : i < ops.size := (Array.getElem?_eq_some_iff.1 ho).1
    have h1' : L.getD i false = false := by rw [← getD_tf (by omega)]; exact h1
    obtain ⟨hg, hd⟩ := hplain i o ho
    unfold wpOpIn
    rw [ho]
    have hw : Region.wanted o (yielded ops a.tmps) = true := by unfold Region.wanted; rw [hg]
    simp only [hw, if_true]
    have hlt := unl_set hL hin h1
    have hK : ∀ a' w', J (fun j => if j = i then true else L.getD j false) a' w' → wpAnyIn (Fence.wide.inRound l) n P .any ops Q fuel (L.setIfInBounds i true) a' w' := fun a' w' hJ => by
      refine ih _ a' w' (by simpa using hL) (by omega) ?_ ?_
      · intro k ok hk hl e he hb
        simp only [getD_setL L i _ (by omega)] at hl ⊢
        split
        · rfl
        · by_cases hki : k = i
          · subst hki
            rw [ho] at hk
            injection hk with hk
            subst hk
            exact hall e he hb
          · rw [if_neg hki] at hl
            exact hcl k ok hk hl e he hb
      have e : (fun j => (L.setIfInBounds i true).getD j false) = fun j => if j = i then true else L.getD j false := by
        funext j
        exact getD_setL L i j (by omega)
      rw [e]
      exact hJ
    obtain ⟨hr, hwp⟩ := hstep _ a w i o _ hcl hI ho h1' hall hK
    exact oper_in hd hr hwp
theorem region_in {l n : Nat} {P : Program} {ops : Array Oper} {id : Nat} {Q : Exit → Act → World → Prop} (hm : P.follows .mixedOrders = true) (J : (Nat → Bool) → Act → World → Prop)
    (hback : ∀ (i : Nat) (o : Oper), ops[i]? = some o → ∀ e ∈ o.after, Region.binds .any e = true → e.on < i)
    (hplain : ∀ (i : Nat) (o : Oper), ops[i]? = some o → o.guard = none ∧ ∀ c, o.op ≠ .defer c)
    (hstep : ∀ (L : Nat → Bool) a w i o (K : Act → World → Prop), Downward ops (fun j => L j = true) → J L a w → ops[i]? = some o → L i = false → (∀ e ∈ o.after, Region.binds .any e = true → L e.on = true) →
      (∀ a' w', J (fun j => if j = i then true else L j) a' w' → K a' w') → (∀ r args w', (execOp a.eval o).run P w ≠ .ok (.row r args) w') ∧ o.wp P a w K Q)
    (hend : ∀ (L : Nat → Bool) a w, (∀ j, j < ops.size → L j = true) → J L a w → Q .normal a w) {a : Act} {w : World} (h0 : J (fun _ => false) a { w with drawn := w.drawn + 1 }) :
    (Code.region id ops true).wpIn (Fence.wide.inRound l) n P Q a w := by
  refine wpIn_region_any hm ?_
  refine any_invIn J hback hplain hstep hend ops.size _ a _ (by simp) ?_ ?_ ?_
  · unfold unl
    exact Nat.le_trans (List.length_filter_le _ _) (by simp)
  · intro k o hk hl
    simp [Array.getD] at hl
  · have e : (fun j => (Array.replicate ops.size false).getD j false) = fun _ => false := by
      funext j
      simp [Array.getD]
    rw [e]
    exact h0
def plainB (o : Oper) : Bool := o.guard.isNone && (match o.op with | .defer _ => false | _ => true)
theorem plain_of {ops : Array Oper} (h : ops.toList.all plainB = true) (i : Nat) (o : Oper) (ho : ops[i]? = some o) : o.guard = none ∧ ∀ c, o.op ≠ .defer c := by
  have hm : o ∈ ops.toList := by
    rw [← Array.getElem?_toList] at ho
    exact List.mem_of_getElem? ho
  have := List.all_eq_true.1 h o hm
  unfold plainB at this
  simp only [Bool.and_eq_true] at this
  refine ⟨by simpa using this.1, fun c hc => ?_⟩
  rw [hc] at this
  cases this.2
theorem back_of {ops : Array Oper} (h : backward 0 ops.toList = true) (i : Nat) (o : Oper) (ho : ops[i]? = some o) (e : Edge) (he : e ∈ o.after) (hb : Region.binds .any e = true) : e.on < i := by
  have := backward_spec h i o (by rwa [Array.getElem?_toList]) e he hb
  omega
end Go.Proofs.YtjfnpokebaagmaaGreatDoor.Xi
