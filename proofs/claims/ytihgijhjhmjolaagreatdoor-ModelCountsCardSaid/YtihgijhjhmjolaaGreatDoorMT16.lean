/- Texts of this claim, side by side: RoundIn, RegG. -/
import Derived.RangeFuncNested
import Derived.RangeFuncCalls
import Derived.OrdersIn
import Derived.TacticsIn
import Derived.Test.YtihgijhjhmjolaaGreatDoorXiV
/- A region in whatever order, inside a round of a range over a function. -/
namespace Go.Proofs.YtihgijhjhmjolaaGreatDoor.Xi
open Go Go.RowKit
set_option linter.unusedVariables false
theorem oper_in {l n : Nat} {P : Program} {o : Oper} {a : Act} {w : World} {K : Act → World → Prop} {Q : Exit → Act → World → Prop} (hd : ∀ c, o.op ≠ .defer c) (hr : ∀ r args w', (execOp a.eval o).run P w ≠ .ok (.row r args) w')
    (h : o.wp P a w K Q) : o.wpIn (Fence.wide.inRound l) n P a w K Q := by
  unfold Oper.wpIn
  refine ⟨fun _ _ => trivial, ?_⟩
  have e : (Fence.wide.inRound l).round = some l := rfl
  rw [e, Oper.semAt_some l a.eval o hd]
  unfold Oper.wp at h
  generalize (execOp a.eval o).run P w = r at *
  cases r with
  | ok x w' =>
    cases x with
    | value v => exact h
    | skip => exact h
    | defer d => exact h
    | enter f args => exact ⟨(fun h => (by cases h)), CallsIn.inRound l (callsIn_wide.2 h)⟩
    | row r args => exact absurd rfl (hr r args w')
    | _ => exact h.elim
  | halt x w' =>
    cases x <;> first | exact h | exact h.elim
/-- As any_inv, in a round. -/
theorem any_invIn {l n : Nat} {P : Program} {ops : Array Oper} {Q : Exit → Act → World → Prop} (J : (Nat → Bool) → Act → World → Prop)
    (hback : ∀ (i : Nat) (o : Oper), ops[i]? = some o → ∀ e ∈ o.after, Region.binds .any e = true → e.on < i)
    (hplain : ∀ (i : Nat) (o : Oper), ops[i]? = some o → o.guard = none ∧ ∀ c, o.op ≠ .defer c)
    (hstep : ∀ (L : Nat → Bool) a w i o (K : Act → World → Prop), Downward ops (fun j => L j = true) → J L a w → ops[i]? = some o → L i = false → (∀ e ∈ o.after, Region.binds .any e = true → L e.on = true) →
      (∀ a' w', J (fun j => if j = i then true else L j) a' w' → K a' w') → (∀ r args w', (execOp a.eval o).run P w ≠ .ok (.row r args) w') ∧ o.wp P a w K Q)
    (hend : ∀ (L : Nat → Bool) a w, (∀ j, j < ops.size → L j = true) → J L a w → Q .normal a w) :
    ∀ (fuel : Nat) (L : Array Bool) (a : Act) (w : World), L.size = ops.size → unl ops.size L ≤ fuel → Downward ops (fun j => L.getD j false = true) → J (fun j => L.getD j false) a w → wpAnyIn (Fence.wide.inRound l) n P .any ops Q fuel L a w := by
  have hready : ∀ L : Array Bool, L.size = ops.size → Region.ready .any ops L = [] → ∀ j, j < ops.size → L.getD j false = true := by
    intro L hL hr k
    induction k using Nat.strongRecOn with
    | _ k ih =>
      intro hk
      cases h : L.getD k false with
      | true => rfl
      | false =>
        have ho : ops[k]? = some ops[k] := Array.getElem?_eq_getElem hk
        have : k ∈ Region.ready .any ops L := by
          rw [mem_ready]
          refine ⟨by rw [getD_tf (by omega)]; exact h, _, ho, fun e he hb => ?_⟩
          have hlt := hback k _ ho e he hb
          exact ih e.on hlt (by omega)
        rw [hr] at this
        cases this
  intro fuel
  induction fuel with
  | zero =>
    intro L a w hL hu hcl hI
    have hfull : ∀ j, j < ops.size → L.getD j false = true := fun k hk => by
      cases h : L.getD k false with
      | true => rfl
      | false =>
        have := unl_set (i := k) hL hk (by rw [getD_tf (by omega)]; exact h)
        omega
    refine ⟨?_, hend _ a w hfull hI⟩
    cases hr : Region.ready .any ops L with
    | nil => rfl
    | cons i l =>
      have hi : i ∈ Region.ready .any ops L := by rw [hr]; simp
      obtain ⟨h1, o, ho, _⟩ := mem_ready.1 hi
      have hin : i < ops.size := (Array.getElem?_eq_some_iff.1 ho).1
      rw [getD_tf (by omega), hfull i hin] at h1
      cases h1
  | succ fuel ih =>
    intro L a w hL hu hcl hI
    refine ⟨fun hr => hend _ a w (hready L hL hr) hI, fun i hi => ?_⟩
    obtain ⟨h1, o, ho, hall⟩ := mem_ready.1 hi
    have hin : i < ops.size := (Array.getElem?_eq_some_iff.1 ho).1
    have h1' : L.getD i false = false := by rw [← getD_tf (by omega)]; exact h1
    obtain ⟨hg, hd⟩ := hplain i o ho
    unfold wpOpIn
    rw [ho]
    have hw : Region.wanted o (yielded ops a.tmps) = true := by unfold Region.wanted; rw [hg]
    simp only [hw, if_true]
    have hlt := unl_set hL hin h1
    have hK : ∀ a' w', J (fun j => if j = i then true else L.getD j false) a' w' → wpAnyIn (Fence.wide.inRound l) n P .any ops Q fuel (L.setIfInBounds i true) a' w' := fun a' w' hJ => by
      refine ih _ a' w' (by simpa using hL) (by omega) ?_ ?_
      · intro k ok hk hl e he hb
        simp only [getD_setL L i _ (by omega)] at hl ⊢
        split
        · rfl
        · by_cases hki : k = i
          · subst hki
            rw [ho] at hk
            injection hk with hk
            subst hk
            exact hall e he hb
          · rw [if_neg hki] at hl
            exact hcl k ok hk hl e he hb
      have e : (fun j => (L.setIfInBounds i true).getD j false) = fun j => if j = i then true else L.getD j false := by
        funext j
        exact getD_setL L i j (by omega)
      rw [e]
      exact hJ
    obtain ⟨hr, hwp⟩ := hstep _ a w i o _ hcl hI ho h1' hall hK
    exact oper_in hd hr hwp
theorem region_in {l n : Nat} {P : Program} {ops : Array Oper} {id : Nat} {Q : Exit → Act → World → Prop} (hm : P.follows .mixedOrders = true) (J : (Nat → Bool) → Act → World → Prop)
    (hback : ∀ (i : Nat) (o : Oper), ops[i]? = some o → ∀ e ∈ o.after, Region.binds .any e = true → e.on < i)
    (hplain : ∀ (i : Nat) (o : Oper), ops[i]? = some o → o.guard = none ∧ ∀ c, o.op ≠ .defer c)
    (hstep : ∀ (L : Nat → Bool) a w i o (K : Act → World → Prop), Downward ops (fun j => L j = true) → J L a w → ops[i]? = some o → L i = false → (∀ e ∈ o.after, Region.binds .any e = true → L e.on = true) →
      (∀ a' w', J (fun j => if j = i then true else L j) a' w' → K a' w') → (∀ r args w', (execOp a.eval o).run P w ≠ .ok (.row r args) w') ∧ o.wp P a w K Q)
    (hend : ∀ (L : Nat → Bool) a w, (∀ j, j < ops.size → L j = true) → J L a w → Q .normal a w) {a : Act} {w : World} (h0 : J (fun _ => false) a { w with drawn := w.drawn + 1 }) :
    (Code.region id ops true).wpIn (Fence.wide.inRound l) n P Q a w := by
  refine wpIn_region_any hm ?_
  refine any_invIn J hback hplain hstep hend ops.size _ a _ (by simp) ?_ ?_ ?_
  · unfold unl
    exact Nat.le_trans (List.length_filter_le _ _) (by simp)
  · intro k o hk hl
    simp [Array.getD] at hl
  · have e : (fun j => (Array.replicate ops.size false).getD j false) = fun _ => false := by
      funext j
      simp [Array.getD]
    rw [e]
    exact h0
def plainB (o : Oper) : Bool := o.guard.isNone && (match o.op with | .defer _ => false | _ => true)
theorem plain_of {ops : Array Oper} (h : ops.toList.all plainB = true) (i : Nat) (o : Oper) (ho : ops[i]? = some o) : o.guard = none ∧ ∀ c, o.op ≠ .defer c := by
  have hm : o ∈ ops.toList := by
    rw [← Array.getElem?_toList] at ho
    exact List.mem_of_getElem? ho
  have := List.all_eq_true.1 h o hm
  unfold plainB at this
  simp only [Bool.and_eq_true] at this
  refine ⟨by simpa using this.1, fun c hc => ?_⟩
  rw [hc] at this
  cases this.2
theorem back_of {ops : Array Oper} (h : backward 0 ops.toList = true) (i : Nat) (o : Oper) (ho : ops[i]? = some o) (e : Edge) (he : e ∈ o.after) (hb : Region.binds .any e = true) : e.on < i := by
  have := backward_spec h i o (by rwa [Array.getElem?_toList]) e he hb
  omega
end Go.Proofs.YtihgijhjhmjolaaGreatDoor.Xi

/- A region whose order is open, with a ghost: what each operation yields may hang on what was found on the way (where a slice lies). -/
namespace Go.Proofs.YtihgijhjhmjolaaGreatDoor.Xi
open Go Go.RowKit
set_option linter.unusedVariables false
/-- Which operation puts a slot. -/
def slotGo (t : Nat) : List Oper → Nat → Option Nat
  | [], _ => none
  | o :: l, i => match o.dst with
    | some d => bif Nat.beq d t then some i else slotGo t l (i + 1)
    | none => slotGo t l (i + 1)
def slotOf (ops : Array Oper) (t : Nat) : Option Nat := slotGo t ops.toList 0
theorem slotGo_spec {t : Nat} : ∀ {l : List Oper} {i k : Nat}, slotGo t l i = some k → ∃ o, l[k - i]? = some o ∧ o.dst = some t ∧ i ≤ k
  | [], i, k, h => by cases h
  | o :: l, i, k, h => by
    unfold slotGo at h
    split at h
    · rename_i d hd
      cases hb : Nat.beq d t with
      | true =>
        rw [hb] at h
        injection h with h
        subst h
        exact ⟨o, by simp, by rw [hd, beq_iff.1 hb], Nat.le_refl _⟩
      | false =>
        rw [hb] at h
        obtain ⟨o', h1, h2, h3⟩ := slotGo_spec (l := l) h
        refine ⟨o', ?_, h2, by omega⟩
        rw [show k - i = (k - (i + 1)) + 1 by omega]
        simpa using h1
    · obtain ⟨o', h1, h2, h3⟩ := slotGo_spec (l := l) h
      refine ⟨o', ?_, h2, by omega⟩
      rw [show k - i = (k - (i + 1)) + 1 by omega]
      simpa using h1
/-- Each operation's slot is found at it: closed. -/
def ownB (ops : Array Oper) (n : Nat) : Bool := (List.range ops.size).all fun i => match ops[i]? with
  | some o => match o.dst with
    | some d => Nat.blt d n && (slotOf ops d == some i)
    | none => true
  | none => true
theorem own_of {ops : Array Oper} {n : Nat} (h : ownB ops n = true) {i : Nat} {o : Oper} {d : Nat} (ho : ops[i]? = some o) (hd : o.dst = some d) : d < n ∧ slotOf ops d = some i := by
  have hi : i < ops.size := (Array.getElem?_eq_some_iff.1 ho).1
  have := List.all_eq_true.1 h i (List.mem_range.2 hi)
  simp only [ho, hd, Bool.and_eq_true, blt_iff] at this
  exact ⟨this.1, by simpa using this.2⟩
section
variable {Γ : Type} (ops : Array Oper) (t0 : Array Value) (val : Γ → Nat → Value)
def tmG (γ : Γ) (L : Nat → Bool) (t : Nat) : Value := match slotOf ops t with
  | some i => bif L i then val γ i else t0.getD t undef
  | none => t0.getD t undef
/-- The slots when all is done. -/
def finG (n : Nat) (γ : Γ) : Array Value := ((List.range n).map (tmG ops t0 val γ fun _ => true)).toArray
structure InvG (df : List Deferred) (n : Nat) (Wd : Γ → (Nat → Bool) → World → Prop) (L : Nat → Bool) (a : Act) (w : World) (γ : Γ) : Prop where
  df : a.defers = df
  sz : a.tmps.size = n
  tm : ∀ t, t < n → a.tmps.getD t undef = tmG ops t0 val γ L t
  wd : Wd γ L w
end
theorem slot_at {Γ : Type} {ops : Array Oper} {t0 : Array Value} {val : Γ → Nat → Value} {γ : Γ} {L : Nat → Bool} {a : Act} (htm : ∀ t, t < t0.size → a.tmps.getD t undef = tmG ops t0 val γ L t) {t i : Nat} (ht : Nat.blt t t0.size = true) (hs : slotOf ops t = some i) (hL : L i = true) : a.tmps.getD t undef = val γ i := by
  rw [htm t (blt_iff.1 ht)]
  unfold tmG
  rw [hs]
  simp only [hL, cond_true]
theorem slot_base {Γ : Type} {ops : Array Oper} {t0 : Array Value} {val : Γ → Nat → Value} {γ : Γ} {L : Nat → Bool} {a : Act} (htm : ∀ t, t < t0.size → a.tmps.getD t undef = tmG ops t0 val γ L t) {t : Nat} (ht : Nat.blt t t0.size = true) (hs : slotOf ops t = none) : a.tmps.getD t undef = t0.getD t undef := by
  rw [htm t (blt_iff.1 ht)]
  unfold tmG
  rw [hs]
theorem val_now {P : Program} {o : Oper} {a : Act} {w w' : World} {K : Act → World → Prop} {Q : Exit → Act → World → Prop} {v : Value} (he : (execOp a.eval o).run P w = .ok (.value v) w') (hk : K (a.put o.dst v) w') : o.wp P a w K Q := by
  unfold Oper.wp
  rw [he]
  exact hk
theorem skip_now {P : Program} {o : Oper} {a : Act} {w w' : World} {K : Act → World → Prop} {Q : Exit → Act → World → Prop} (he : (execOp a.eval o).run P w = .ok .skip w') (hk : K (a.put o.dst undef) w') : o.wp P a w K Q := by
  unfold Oper.wp
  rw [he]
  exact hk
theorem call_now {P : Program} {o : Oper} {a : Act} {w : World} {K : Act → World → Prop} {Q : Exit → Act → World → Prop} {f : FuncId} {args : Array Value} {R : Ending → World → Prop} (he : (execOp a.eval o).run P w = .ok (.enter f args) w) (hc : Calls P f args w R)
    (hk : ∀ e w', R e w' → ∃ v, e = .returned v ∧ K (a.put o.dst v) w') : o.wp P a w K Q := by
  unfold Oper.wp
  rw [he]
  refine hc.mono fun e w' hr => ?_
  obtain ⟨v, rfl, h⟩ := hk e w' hr
  exact h
/-- What is to be shown of an operation that yields a value, or nothing, at once. -/
def StepG {Γ : Type} (P : Program) (ops : Array Oper) (t0 : Array Value) (val : Γ → Nat → Value) (Wd : Γ → (Nat → Bool) → World → Prop) (i : Nat) (o : Oper) : Prop :=
  ∀ (L : Nat → Bool) (a : Act) (w : World) (γ : Γ), Downward ops (fun j => L j = true) → (∀ t, t < t0.size → a.tmps.getD t undef = tmG ops t0 val γ L t) → Wd γ L w → L i = false → (∀ e ∈ o.after, Region.binds .any e = true → L e.on = true) →
    (∀ (K : Act → World → Prop) (Q : Exit → Act → World → Prop), (∀ γ' w', (∀ j, L j = true → val γ' j = val γ j) → Wd γ' (fun j => if j = i then true else L j) w' → K (a.put o.dst (match o.dst with | some _ => val γ' i | none => undef)) w') → o.wp P a w K Q)
theorem wp_regionG {Γ : Type} {P : Program} {ops : Array Oper} {id : Nat} {Q : Exit → Act → World → Prop} (hm : P.follows .mixedOrders = true) (t0 : Array Value) (df : List Deferred) (val : Γ → Nat → Value) (Wd : Γ → (Nat → Bool) → World → Prop) (γ0 : Γ) {w : World}
    (hback : backward 0 ops.toList = true) (hplain : ops.toList.all plainB = true) (hown : ownB ops t0.size = true)
    (hstep : ∀ i o, ops[i]? = some o → StepG P ops t0 val Wd i o)
    (h0 : Wd γ0 (fun _ => false) w.drew)
    (hend : ∀ γ w', Wd γ (fun _ => true) w' → Q .normal { tmps := finG ops t0 val t0.size γ, defers := df } w')
    (hext : ∀ γ (L L' : Nat → Bool) w', (∀ j, j < ops.size → L j = L' j) → Wd γ L w' → Wd γ L' w') :
    (Code.region id ops true).wp P Q { tmps := t0, defers := df } w := by
  refine wp_region_any hm ?_
  refine any_inv (fun L a w => ∃ γ, InvG ops t0 val df t0.size Wd L a w γ) (fun i o ho e he hb => back_of hback i o ho e he hb) ?_ ?_ ops.size _ _ _ (by simp) ?_ ?_ ?_
  · intro L a w' i o K hLs hdn hJ ho hL hpre hK
    obtain ⟨γ, hI⟩ := hJ
    obtain ⟨hg, _⟩ := plain_of hplain i o ho
    have hin : i < ops.size := (Array.getElem?_eq_some_iff.1 ho).1
    unfold wpOp
    rw [ho]
    have hw : Region.wanted o (yielded ops a.tmps) = true := by unfold Region.wanted; rw [hg]
    simp only [hw, if_true]
    refine .inl (hstep i o ho (fun j => L.getD j false) a w' γ hdn hI.tm hI.wd hL hpre K Q fun γ' w2 hval hwd => ?_)
    refine hK _ _ ⟨γ', ?_⟩
    have e : (fun j => (L.setIfInBounds i true).getD j false) = fun j => if j = i then true else L.getD j false := by
      funext j
      exact getD_setL L i j (by omega)
    rw [e]
    refine ⟨?_, ?_, fun t ht => ?_, hwd⟩
    · cases hd : o.dst <;> simp [Act.put, hI.df]
    · cases hd : o.dst <;> simp [Act.put, hI.sz]
    · have htm := hI.tm t ht
      have hold : tmG ops t0 val γ (fun j => L.getD j false) t = tmG ops t0 val γ' (fun j => L.getD j false) t := by
        unfold tmG
        split
        · rename_i k hk
          cases hLk : L.getD k false with
          | false => simp only [hLk, cond_false]
          | true => simp only [hLk, cond_true]; exact (hval k hLk).symm
        · rfl
      cases hd : o.dst with
      | none =>
        show a.tmps.getD t undef = _
        rw [htm, hold]
        unfold tmG
        split
        · rename_i k hk
          obtain ⟨o', h1, h2, _⟩ := slotGo_spec hk
          have hne : k ≠ i := fun e => by
            subst e
            rw [Nat.sub_zero, Array.getElem?_toList] at h1
            rw [ho] at h1
            injection h1 with h1
            subst h1
            rw [hd] at h2
            cases h2
          simp only [if_neg hne]
        · rfl
      | some d =>
        obtain ⟨hdn', hso⟩ := own_of hown ho hd
        by_cases hdt : d = t
        · subst hdt
          simp only [Act.put, Array.getD_eq_getD_getElem?]
          rw [Array.getElem?_setIfInBounds_self_of_lt (by rw [hI.sz]; exact hdn')]
          unfold tmG
          rw [hso]
          simp
        · have e2 : (a.put (some d) (val γ' i)).tmps.getD t undef = a.tmps.getD t undef := by
            simp only [Act.put, Array.getD_eq_getD_getElem?]
            rw [Array.getElem?_setIfInBounds_ne hdt]
          show (a.put (some d) (val γ' i)).tmps.getD t undef = _
          rw [e2, htm, hold]
          unfold tmG
          split
          · rename_i k hk
            have hne : k ≠ i := fun e => by
              subst e
              obtain ⟨o', h1, h2, _⟩ := slotGo_spec hk
              rw [Nat.sub_zero, Array.getElem?_toList] at h1
              rw [ho] at h1
              injection h1 with h1
              subst h1
              rw [hd] at h2
              injection h2 with h2
              exact hdt h2
            simp only [if_neg hne]
          · rfl
  · intro L a w' hLs hall hJ
    obtain ⟨γ, hI⟩ := hJ
    have e : a = { tmps := finG ops t0 val t0.size γ, defers := df } := by
      have h1 : a.tmps = finG ops t0 val t0.size γ := by
        apply Array.ext
        · rw [hI.sz]; simp [finG]
        · intro t ht1 ht2
          have ht : t < t0.size := by rw [← hI.sz]; exact ht1
          have := hI.tm t ht
          rw [Array.getD_eq_getD_getElem?, Array.getElem?_eq_getElem ht1] at this
          simp only [Option.getD_some] at this
          rw [this]
          simp only [finG, List.getElem_toArray, List.getElem_map, List.getElem_range]
          unfold tmG
          split
          · rename_i k hk
            obtain ⟨o', h1, _, _⟩ := slotGo_spec hk
            rw [Nat.sub_zero, Array.getElem?_toList] at h1
            show (bif L.getD k false then val γ k else t0.getD t undef) = _
            rw [hall k (Array.getElem?_eq_some_iff.1 h1).1]
          · rfl
      have h2 := hI.df
      cases a
      simp only at h1 h2
      rw [h1, h2]
    rw [e]
    exact hend γ w' (hext γ _ _ w' (fun j hj => hall j hj) hI.wd)
  · unfold unl
    exact Nat.le_trans (List.length_filter_le _ _) (by simp)
  · intro k o hk hl
    simp [Array.getD] at hl
  · have e : (fun j => (Array.replicate ops.size false).getD j false) = fun _ => false := by
      funext j
      simp [Array.getD]
    rw [e]
    refine ⟨γ0, rfl, rfl, fun t ht => ?_, h0⟩
    unfold tmG
    split <;> rfl
end Go.Proofs.YtihgijhjhmjolaaGreatDoor.Xi
