/- Texts of this claim, side by side: Slots, Bs. -/
import Derived.Test.YtihgijhjhmjolaaGreatDoorVP1
import Derived.Laws.IdiomStrings
import Derived.Laws.BytesArg
/- A region that draws its order, slot by slot: each operation is walked once, whatever order is drawn. No program is in sight. -/
namespace Go.Proofs.YtihgijhjhmjolaaGreatDoor
open Go.RowKit
set_option linter.unusedVariables false
inductive Kd where
 | val
 | new (T : TypeId) (c : List Value)
 | put (j : Nat) (c : List Value)
structure Reg where
 ops : Array Oper
 a0 : Act
 V : Nat → Value
 N : Nat → Nat → Value
 kd : Nat → Kd
 O : Nat → Nat
 S : Nat → World → Prop
 F : World → Nat → Prop
 B : Nat
 E : List Nat
namespace Reg
variable (r : Reg)
def isNew (j : Nat) : Bool := match r.kd j with | .new _ _ => true | _ => false
def vl (γ : Nat → Nat) (k : Nat) : Value := match r.kd k with | .val => r.V k | .new _ _ => r.N k (γ k) | .put _ _ => undef
def puts (k j : Nat) : Bool := match r.kd k with | .put j' _ => j' == j | _ => false
def cont (L : Array Bool) (j : Nat) (c0 : List Value) : List Value :=
 match (List.range r.ops.size).find? (fun k => L.getD k false && r.puts k j) with
 | some k => match r.kd k with | .put _ c => c | _ => c0
 | none => c0
def live (L : Array Bool) (j : Nat) : Prop := L.getD j false = true ∨ r.ops.size ≤ j
structure Inv (L : Array Bool) (a : Act) (w : World) (γ : Nat → Nat) (n : Nat) : Prop where
 S : r.S n w
 eff : ∀ j e, r.E[j]? = some e → (L.getD e false = true ↔ j < n)
 top : n ≤ r.E.length
 defers : a.defers = r.a0.defers
 size : a.tmps.size = r.a0.tmps.size
 base : ∀ t, (∀ k o, r.ops[k]? = some o → L.getD k false = true → o.dst ≠ some t) → a.tmps.getD t undef = r.a0.tmps.getD t undef
 val : ∀ k o t, r.ops[k]? = some o → L.getD k false = true → o.dst = some t → a.tmps.getD t undef = r.vl γ k
 blk : ∀ j T c, r.kd j = .new T c → r.live L j → Blk w (γ j) T (r.cont L j c) ∧ r.F w (γ j) ∧ r.B ≤ γ j
 ne : ∀ i j, r.isNew i = true → r.isNew j = true → r.live L i → r.live L j → i ≠ j → γ i ≠ γ j
 old : ∀ j, r.ops.size ≤ j → γ j = r.O j
structure Pre (i : Nat) (o : Oper) (a : Act) (w : World) (γ : Nat → Nat) (n : Nat) : Prop where
 S : r.S n w
 eff : ∀ j, r.E[j]? = some i → n = j
 old : ∀ j, r.ops.size ≤ j → γ j = r.O j
 dep : ∀ e ∈ o.after, Region.binds .any e = true → ∀ oj t, r.ops[e.on]? = some oj → oj.dst = some t → a.tmps.getD t undef = r.vl γ e.on
 base : ∀ t, (∀ k ok, r.ops[k]? = some ok → ok.dst = some t → k = i ∨ ∃ e ∈ ok.after, Region.binds .any e = true ∧ e.on = i) → a.tmps.getD t undef = r.a0.tmps.getD t undef
 blk : ∀ j T c, r.kd j = .new T c → (r.ops.size ≤ j ∨ ∃ e ∈ o.after, Region.binds .any e = true ∧ e.on = j) → (∀ k, k < r.ops.size → r.puts k j = true → k = i ∨ ∃ ok, r.ops[k]? = some ok ∧ ∃ e ∈ ok.after, Region.binds .any e = true ∧ e.on = i) → Blk w (γ j) T c ∧ r.F w (γ j) ∧ r.B ≤ γ j
def Keep (w w' : World) : Prop := w.heap.size ≤ w'.heap.size ∧ ∀ g, g < w.heap.size → r.F w g → r.F w' g ∧ w'.heap[g]? = w.heap[g]?
def nxt (i n : Nat) : Nat := if r.E.contains i then n + 1 else n
def Post (i : Nat) (o : Oper) (a : Act) (w : World) (γ : Nat → Nat) (n : Nat) (K : Act → World → Prop) : Prop :=
 match r.kd i with
 | .val => ∀ w', r.S (r.nxt i n) w' → r.Keep w w' → K (a.put o.dst (r.V i)) w'
 | .new T c => K (a.put o.dst (r.N i w.heap.size)) (w.alloc (.cells c.toArray T))
 | .put j c => ∀ w', (∀ T c0, r.kd j = .new T c0 → Blk w' (γ j) T c) → Chg w w' [γ j] → w'.heap.size = w.heap.size → K (a.put o.dst undef) w'
def StepOk (P : Program) (Q : Exit → Act → World → Prop) (i : Nat) (o : Oper) : Prop :=
 ∀ a w γ n (K : Act → World → Prop), r.Pre i o a w γ n → r.Post i o a w γ n K → Oper.wp P o a w K Q
structure Good : Prop where
 guard : ∀ (i : Nat) (o : Oper), r.ops[i]? = some o → o.guard = none
 after : ∀ (i : Nat) (o : Oper), r.ops[i]? = some o → ∀ e ∈ o.after, Region.binds .any e = true → e.on < i
 dsts : ∀ (i j : Nat) (oi oj : Oper) (t : Nat), r.ops[i]? = some oi → r.ops[j]? = some oj → oi.dst = some t → oj.dst = some t → i = j
 inb : ∀ (i : Nat) (o : Oper) (t : Nat), r.ops[i]? = some o → o.dst = some t → t < r.a0.tmps.size
 putj : ∀ (i : Nat) (o : Oper) (j : Nat) (c : List Value), r.ops[i]? = some o → r.kd i = .put j c → o.dst = none ∧ r.isNew j = true ∧ (r.ops.size ≤ j ∨ ∃ e ∈ o.after, Region.binds .any e = true ∧ e.on = j)
 putu : ∀ (i k j : Nat), i < r.ops.size → k < r.ops.size → r.puts i j = true → r.puts k j = true → i = k
 effv : ∀ i, r.E.contains i = true → i < r.ops.size ∧ r.kd i = .val
 effn : ∀ (j k e : Nat), r.E[j]? = some e → r.E[k]? = some e → j = k
 effo : ∀ (j e e' : Nat) (o : Oper), r.E[j]? = some e → r.E[j + 1]? = some e' → r.ops[e']? = some o → ∃ d ∈ o.after, Region.binds .any d = true ∧ d.on = e
structure Stands : Prop where
 alloc : ∀ n w o, r.S n w → r.S n (w.alloc o)
 falloc : ∀ n w o g, r.S n w → r.F w g → r.F (w.alloc o) g
 fnew : ∀ n w o, r.S n w → r.F (w.alloc o) w.heap.size ∧ r.B ≤ w.heap.size
 store : ∀ n w w' g, r.S n w → r.F w g → r.B ≤ g → (∃ i j T c0 c1 c, r.kd i = .put j c1 ∧ r.kd j = .new T c0 ∧ Blk w g T c) → Chg w w' [g] → w'.heap.size = w.heap.size → r.S n w' ∧ ∀ g', r.F w g' → r.F w' g'
theorem getD_put {a : Act} {d : Option Tmp} {v : Value} {t : Nat} (h : d ≠ some t) : (a.put d v).tmps.getD t undef = a.tmps.getD t undef := by
 cases d with
 | none => rfl
 | some d =>
  have hne : d ≠ t := fun e => h (by rw [e])
  simp [Act.put, Array.getElem?_setIfInBounds_ne hne]
theorem getD_put_same {a : Act} {d : Tmp} {v : Value} (h : d < a.tmps.size) : (a.put (some d) v).tmps.getD d undef = v := by
 simp [Act.put, h]
theorem size_put {a : Act} {d : Option Tmp} {v : Value} : (a.put d v).tmps.size = a.tmps.size := by cases d <;> simp [Act.put]
theorem defers_put {a : Act} {d : Option Tmp} {v : Value} : (a.put d v).defers = a.defers := by cases d <;> rfl
theorem getD_set (L : Array Bool) (i k : Nat) (hi : i < L.size) : (L.setIfInBounds i true).getD k false = if k = i then true else L.getD k false := by
 by_cases h : k = i
 · subst h; simp [hi]
 · rw [if_neg h]; simp [Array.getElem?_setIfInBounds_ne (Ne.symm h)]
def unl (n : Nat) (L : Array Bool) : Nat := ((List.range n).filter fun i => !L.getD i true).length
theorem filter_lt {p q : Nat → Bool} : ∀ (l : List Nat), (∀ x, q x = true → p x = true) → (∃ x ∈ l, p x = true ∧ q x = false) → (l.filter q).length < (l.filter p).length := by
 intro l h
 induction l with
 | nil => rintro ⟨x, hx, _⟩; cases hx
 | cons y l ih =>
  have hle : (l.filter q).length ≤ (l.filter p).length := by
   clear ih
   induction l with
   | nil => simp
   | cons z l ih =>
    simp only [List.filter_cons]
    cases hq : q z with
    | true => simp [h z hq]; exact ih
    | false => cases p z <;> simp <;> omega
  rintro ⟨x, hx, hp, hq⟩
  simp only [List.filter_cons]
  rcases List.mem_cons.1 hx with rfl | hx
  · simp [hp, hq]; omega
  · have := ih ⟨x, hx, hp, hq⟩
    cases hqy : q y with
    | true => simp [h y hqy]; exact this
    | false => cases p y <;> simp <;> omega
theorem unl_set {n : Nat} {L : Array Bool} {i : Nat} (hn : L.size = n) (hi : i < n) (h : L.getD i true = false) : unl n (L.setIfInBounds i true) < unl n L := by
 refine filter_lt _ (fun x hx => ?_) ⟨i, List.mem_range.2 hi, by simp [h], by simp [hn, hi]⟩
 by_cases hxi : x = i
 · subst hxi; simp [hn, hi] at hx
 · simpa [Array.getElem?_setIfInBounds_ne (Ne.symm hxi)] using hx
variable {r}
theorem live_set {L : Array Bool} {i j : Nat} (hi : i < L.size) (hj : r.live (L.setIfInBounds i true) j) (hne : j ≠ i) : r.live L j := by
 rcases hj with h | h
 · left; rwa [getD_set L i j hi, if_neg hne] at h
 · exact .inr h
theorem cont_other {L : Array Bool} {i j : Nat} {c : List Value} (hi : i < L.size) (h : r.puts i j = false) : r.cont (L.setIfInBounds i true) j c = r.cont L j c := by
 unfold cont
 have : (fun k => (L.setIfInBounds i true).getD k false && r.puts k j) = (fun k => L.getD k false && r.puts k j) := by
  funext k
  rw [getD_set L i k hi]
  by_cases hk : k = i
  · subst hk; simp [h]
  · rw [if_neg hk]
 rw [this]
theorem cont_none {L : Array Bool} {j : Nat} {c : List Value} (h : ∀ k, k < r.ops.size → r.puts k j = true → L.getD k false = false) : r.cont L j c = c := by
 unfold cont
 rw [List.find?_eq_none.2]
 intro k hk
 simp only [Bool.and_eq_true, not_and, Bool.not_eq_true]
 intro h1
 cases hp : r.puts k j with
 | false => rfl
 | true => rw [h k (List.mem_range.1 hk) hp] at h1; cases h1
theorem cont_put {L : Array Bool} {i j : Nat} {c c' : List Value} (hi : i < L.size) (hn : i < r.ops.size) (hk : r.kd i = .put j c') (hu : ∀ k, k < r.ops.size → r.puts k j = true → k = i) : r.cont (L.setIfInBounds i true) j c = c' := by
 unfold cont
 have hp : r.puts i j = true := by unfold puts; rw [hk]; simp
 cases hf : (List.range r.ops.size).find? (fun k => (L.setIfInBounds i true).getD k false && r.puts k j) with
 | none =>
  have := List.find?_eq_none.1 hf i (List.mem_range.2 hn)
  rw [getD_set L i i hi] at this
  simp [hp] at this
 | some k =>
  have h1 := List.find?_some hf
  have h2 := List.mem_of_find?_eq_some hf
  have : k = i := hu k (List.mem_range.1 h2) (by simp at h1; exact h1.2)
  subst this
  simp only [hk]
theorem step_inv (hg : r.Good) (hs : r.Stands) {P : Program} {Q : Exit → Act → World → Prop} (hstep : ∀ i o, r.ops[i]? = some o → r.StepOk P Q i o)
 {L : Array Bool} (hL : L.size = r.ops.size) {a : Act} {w : World} {γ : Nat → Nat} {n : Nat} (hI : r.Inv L a w γ n) {i : Nat} {o : Oper} (ho : r.ops[i]? = some o) (hu : L.getD i true = false)
 (hdep : ∀ e ∈ o.after, Region.binds .any e = true → L.getD e.on false = true) (hprev : ∀ k ok, r.ops[k]? = some ok → (∃ e ∈ ok.after, Region.binds .any e = true ∧ e.on = i) → L.getD k false = false)
 (K : Act → World → Prop) (hK : ∀ a' w' γ' n', r.Inv (L.setIfInBounds i true) a' w' γ' n' → K a' w') : Oper.wp P o a w K Q := by
 have hin : i < r.ops.size := (Array.getElem?_eq_some_iff.1 ho).1
 have hiL : i < L.size := by omega
 have huf : L.getD i false = false := by
  have : L[i]? = some L[i] := Array.getElem?_eq_getElem hiL
  simp only [Array.getD_eq_getD_getElem?, this] at hu ⊢
  exact hu
 have hnl : ∀ k ok, r.ops[k]? = some ok → k = i ∨ (∃ e ∈ ok.after, Region.binds .any e = true ∧ e.on = i) → L.getD k false = false := by
  rintro k ok hk (rfl | h)
  · exact huf
  · exact hprev k ok hk h
 have hlive : ∀ j, r.live (L.setIfInBounds i true) j → j = i ∨ r.live L j := fun j hj => by
  by_cases h : j = i
  · exact .inl h
  · exact .inr (live_set hiL hj h)
 have hinl : ¬ r.live L i := by
  rintro (h | h)
  · rw [huf] at h; cases h
  · omega
 have heff : ∀ j, r.E[j]? = some i → n = j := fun j hj => by
  have h1 : ¬ j < n := fun h => by rw [(hI.eff j i hj).2 h] at huf; cases huf
  cases j with
  | zero => omega
  | succ j =>
   have hjl : j + 1 < r.E.length := (List.getElem?_eq_some_iff.1 hj).1
   obtain ⟨e, he⟩ : ∃ e, r.E[j]? = some e := ⟨_, List.getElem?_eq_getElem (by omega)⟩
   obtain ⟨d, hd, hb, hde⟩ := hg.effo j e i o he hj ho
   have := (hI.eff j e he).1 (hde ▸ hdep d hd hb)
   omega
 have hnone : r.E.contains i = false → ∀ j e, r.E[j]? = some e → ((L.setIfInBounds i true).getD e false = true ↔ j < n) := fun h j e he => by
  have hne : e ≠ i := fun hei => by
   subst hei
   have := List.mem_of_getElem? he
   simp at h
   exact h this
  rw [getD_set L i e hiL, if_neg hne]
  exact hI.eff j e he
 refine hstep i o ho a w γ n K ⟨hI.S, heff, hI.old, ?_, ?_, ?_⟩ ?_
 · intro e he hb oj t hoj ht
   exact hI.val e.on oj t hoj (hdep e he hb) ht
 · intro t ht
   refine hI.base t (fun k ok hk hl hd => ?_)
   rw [hnl k ok hk (ht k ok hk hd)] at hl
   cases hl
 · intro j T c hj hlv hp
   have hlive' : r.live L j := by
    rcases hlv with h | ⟨e, he, hb, rfl⟩
    · exact .inr h
    · exact .inl (hdep e he hb)
   have := hI.blk j T c hj hlive'
   rwa [cont_none] at this
   intro k hk hpk
   rcases hp k hk hpk with rfl | ⟨ok, hok, h⟩
   · exact huf
   · exact hnl k ok hok (.inr h)
 · have hset : ∀ k, (L.setIfInBounds i true).getD k false = true → k = i ∨ L.getD k false = true := fun k hk => by
    rw [getD_set L i k hiL] at hk
    by_cases h : k = i
    · exact .inl h
    · exact .inr (by rwa [if_neg h] at hk)
   have hbase : ∀ (v : Value) t, (∀ k ok, r.ops[k]? = some ok → (L.setIfInBounds i true).getD k false = true → ok.dst ≠ some t) → (a.put o.dst v).tmps.getD t undef = r.a0.tmps.getD t undef := fun v t h => by
    rw [getD_put (h i o ho (by rw [getD_set L i i hiL, if_pos rfl]))]
    exact hI.base t (fun k ok hk hl => h k ok hk (by rw [getD_set L i k hiL]; split; rfl; exact hl))
   have hval : ∀ (γ' : Nat → Nat) (v : Value), (∀ k, k ≠ i → γ' k = γ k) → (∀ t, o.dst = some t → v = r.vl γ' i) → ∀ k ok t, r.ops[k]? = some ok → (L.setIfInBounds i true).getD k false = true → ok.dst = some t → (a.put o.dst v).tmps.getD t undef = r.vl γ' k := fun γ' v hγ hv k ok t hk hl ht => by
    by_cases hki : k = i
    · subst hki
      rw [ho] at hk
      injection hk with hk
      subst hk
      rw [ht, getD_put_same (by rw [hI.size]; exact hg.inb k o t ho ht)]
      exact hv t ht
    · have hne : o.dst ≠ some t := fun h => hki (hg.dsts k i ok o t hk ho ht h)
      rw [getD_put hne, hI.val k ok t hk ((hset k hl).resolve_left hki) ht]
      unfold vl
      cases r.kd k <;> simp [hγ k hki]
   have hcont : r.puts i = (fun _ => false) → ∀ j c, r.cont (L.setIfInBounds i true) j c = r.cont L j c := fun h j c => cont_other hiL (by rw [h])
   unfold Post
   cases hk : r.kd i with
   | val =>
    have hp : r.puts i = (fun _ => false) := by funext j; unfold puts; rw [hk]
    intro w' hS hKp
    have hE : (∀ j e, r.E[j]? = some e → ((L.setIfInBounds i true).getD e false = true ↔ j < r.nxt i n)) ∧ r.nxt i n ≤ r.E.length := by
     unfold nxt
     cases hc : r.E.contains i with
     | false => exact ⟨by simpa using hnone hc, by simpa using hI.top⟩
     | true =>
      obtain ⟨j0, hj0⟩ := List.mem_iff_getElem?.1 (by simpa using hc : i ∈ r.E)
      have hn := heff j0 hj0
      subst hn
      have hlt : n < r.E.length := (List.getElem?_eq_some_iff.1 hj0).1
      refine ⟨fun j e he => ?_, by simp only [if_true]; omega⟩
      rw [getD_set L i e hiL]
      by_cases hei : e = i
      · subst hei
        have := hg.effn j n e he hj0
        simp [this]
      · have hjn : j ≠ n := fun e' => by subst e'; rw [hj0] at he; injection he with he; exact hei he.symm
        simp only [if_neg hei, if_true]
        rw [hI.eff j e he]
        omega
    refine hK _ _ γ _ ⟨hS, hE.1, hE.2, by rw [defers_put]; exact hI.defers, by rw [size_put]; exact hI.size, hbase _, hval γ _ (fun _ _ => rfl) (fun t ht => by unfold vl; rw [hk]), ?_, ?_, hI.old⟩
    · intro j T c hj hl
      have hji : j ≠ i := fun e => by rw [e, hk] at hj; cases hj
      obtain ⟨hb, hf, hB⟩ := hI.blk j T c hj ((hlive j hl).resolve_left hji)
      rw [hcont hp]
      obtain ⟨h1, h2⟩ := hKp.2 (γ j) hb.lt hf
      exact ⟨h2.trans hb, h1, hB⟩
    · intro j j' h1 h2 h3 h4 h5
      have a1 : j ≠ i := fun e => by rw [e] at h1; unfold isNew at h1; rw [hk] at h1; cases h1
      have a2 : j' ≠ i := fun e => by rw [e] at h2; unfold isNew at h2; rw [hk] at h2; cases h2
      exact hI.ne j j' h1 h2 ((hlive j h3).resolve_left a1) ((hlive j' h4).resolve_left a2) h5
   | new T c =>
    have hp : r.puts i = (fun _ => false) := by funext j; unfold puts; rw [hk]
    have hn : ∀ k, k ≠ i → (fun k => if k = i then w.heap.size else γ k) k = γ k := fun k h => if_neg h
    have hnc : r.E.contains i = false := by
     cases hc : r.E.contains i with
     | false => rfl
     | true => rw [(hg.effv i hc).2] at hk; cases hk
    refine hK _ _ (fun k => if k = i then w.heap.size else γ k) n ⟨hs.alloc _ _ _ hI.S, hnone hnc, hI.top, by rw [defers_put]; exact hI.defers, by rw [size_put]; exact hI.size, hbase _, hval _ _ hn (fun t ht => by unfold vl; rw [hk]; simp), ?_, ?_, fun j hj => (hn j (by omega)).trans (hI.old j hj)⟩
    · intro j T' c' hj hl
      rw [hcont hp]
      by_cases hji : j = i
      · subst hji
        rw [hk] at hj
        injection hj with h1 h2
        subst h1 h2
        simp only [if_true]
        rw [cont_none]
        · exact ⟨Blk.new w T c, (hs.fnew n w (.cells c.toArray T) hI.S).1, (hs.fnew n w (.cells c.toArray T) hI.S).2⟩
        · intro k hk2 hpk
          obtain ⟨ok, hok⟩ : ∃ ok, r.ops[k]? = some ok := ⟨_, Array.getElem?_eq_getElem hk2⟩
          unfold puts at hpk
          cases hkk : r.kd k with
          | put j' c'' =>
           rw [hkk] at hpk
           simp at hpk
           subst hpk
           obtain ⟨_, _, h⟩ := hg.putj k ok j' c'' hok hkk
           rcases h with h | h
           · omega
           · exact hprev k ok hok h
          | _ => rw [hkk] at hpk; cases hpk
      · simp only [if_neg hji]
        obtain ⟨hb, hf, hB⟩ := hI.blk j T' c' hj ((hlive j hl).resolve_left hji)
        exact ⟨hb.alloc _, hs.falloc _ _ _ _ hI.S hf, hB⟩
    · have hlt : ∀ j, r.isNew j = true → r.live L j → γ j < w.heap.size := fun j h1 h2 => by
       unfold isNew at h1
       cases hj : r.kd j with
       | new T c => exact (hI.blk j T c hj h2).1.lt
       | _ => rw [hj] at h1; cases h1
      intro j j' h1 h2 h3 h4 h5
      rcases hlive j h3 with rfl | h3' <;> rcases hlive j' h4 with rfl | h4'
      · exact absurd rfl h5
      · have := hlt j' h2 h4'
        have hx : j' ≠ j := fun e => h5 e.symm
        simp only [if_true, if_neg hx]; omega
      · have := hlt j h1 h3'
        simp only [if_true, if_neg h5]; omega
      · have a1 : j ≠ i := fun e => hinl (e ▸ h3')
        have a2 : j' ≠ i := fun e => hinl (e ▸ h4')
        simp only [if_neg a1, if_neg a2]
        exact hI.ne j j' h1 h2 h3' h4' h5
   | put j0 c =>
    obtain ⟨hd, hj0, hl0⟩ := hg.putj i o j0 c ho hk
    have hlive0 : r.live L j0 := by
     rcases hl0 with h | ⟨e, he, hb, rfl⟩
     · exact .inr h
     · exact .inl (hdep e he hb)
    have hnew : ∃ T c0, r.kd j0 = .new T c0 := by
     unfold isNew at hj0
     cases hj : r.kd j0 with
     | new T c => exact ⟨T, c, rfl⟩
     | _ => rw [hj] at hj0; cases hj0
    obtain ⟨T0, c0, hj0'⟩ := hnew
    obtain ⟨hb0, hf0, hB0⟩ := hI.blk j0 T0 c0 hj0' hlive0
    intro w' hb hc hsz
    obtain ⟨hS', hF'⟩ := hs.store n w w' (γ j0) hI.S hf0 hB0 ⟨i, j0, T0, c0, c, _, hk, hj0', hb0⟩ hc hsz
    have hnc : r.E.contains i = false := by
     cases hc : r.E.contains i with
     | false => rfl
     | true => rw [(hg.effv i hc).2] at hk; cases hk
    refine hK _ _ γ n ⟨hS', hnone hnc, hI.top, by rw [defers_put]; exact hI.defers, by rw [size_put]; exact hI.size, hbase _, hval γ _ (fun _ _ => rfl) (fun t ht => by rw [hd] at ht; cases ht), ?_, ?_, hI.old⟩
    · intro j T' c' hj hl
      have hji : j ≠ i := fun e => by rw [e, hk] at hj; cases hj
      have hlj := (hlive j hl).resolve_left hji
      obtain ⟨hbj, hfj, hBj⟩ := hI.blk j T' c' hj hlj
      by_cases hjj : j = j0
      · subst hjj
        rw [cont_put hiL hin hk (fun k h1 h2 => hg.putu k i j h1 hin h2 (by unfold puts; rw [hk]; simp))]
        exact ⟨hb _ _ hj, hF' _ hfj, hBj⟩
      · rw [cont_other hiL (by unfold puts; rw [hk]; simpa using Ne.symm hjj)]
        have hne := hI.ne j j0 (by unfold isNew; rw [hj]) hj0 hlj hlive0 hjj
        exact ⟨hbj.chg hc (by simpa using hne), hF' _ hfj, hBj⟩
    · intro j j' h1 h2 h3 h4 h5
      have a1 : j ≠ i := fun e => by rw [e] at h1; unfold isNew at h1; rw [hk] at h1; cases h1
      have a2 : j' ≠ i := fun e => by rw [e] at h2; unfold isNew at h2; rw [hk] at h2; cases h2
      exact hI.ne j j' h1 h2 ((hlive j h3).resolve_left a1) ((hlive j' h4).resolve_left a2) h5
theorem getD_true_iff {L : Array Bool} {i : Nat} (h : i < L.size) : L.getD i true = L.getD i false := by
 simp [Array.getD_eq_getD_getElem?, Array.getElem?_eq_getElem h]
def Full (r : Reg) (L : Array Bool) : Prop := L.size = r.ops.size ∧ ∀ k, k < r.ops.size → L.getD k false = true
theorem wpAny_inv (hg : r.Good) (hs : r.Stands) {P : Program} {Q : Exit → Act → World → Prop} (hstep : ∀ i o, r.ops[i]? = some o → r.StepOk P Q i o)
 (hend : ∀ L a w γ n, r.Full L → r.Inv L a w γ n → Q .normal a w) : ∀ (fuel : Nat) (L : Array Bool) (a : Act) (w : World) (γ : Nat → Nat) (n : Nat), L.size = r.ops.size → unl r.ops.size L ≤ fuel →
 (∀ k o, r.ops[k]? = some o → L.getD k false = true → ∀ e ∈ o.after, Region.binds .any e = true → L.getD e.on false = true) → r.Inv L a w γ n → wpAny P .any r.ops Q fuel L a w := by
 have hready : ∀ L : Array Bool, L.size = r.ops.size → Region.ready .any r.ops L = [] → r.Full L := by
  intro L hL hr
  refine ⟨hL, fun k => ?_⟩
  induction k using Nat.strongRecOn with
  | _ k ih =>
   intro hk
   cases h : L.getD k false with
   | true => rfl
   | false =>
    have ho : r.ops[k]? = some r.ops[k] := Array.getElem?_eq_getElem hk
    have : k ∈ Region.ready .any r.ops L := by
     rw [mem_ready]
     refine ⟨by rw [getD_true_iff (by omega)]; exact h, _, ho, fun e he hb => ?_⟩
     have hlt := hg.after k _ ho e he hb
     exact ih e.on hlt (by omega)
    rw [hr] at this
    cases this
 intro fuel
 induction fuel with
 | zero =>
  intro L a w γ n hL hu hcl hI
  have hfull : r.Full L := ⟨hL, fun k hk => by
   cases h : L.getD k false with
   | true => rfl
   | false =>
    have := unl_set (i := k) hL hk (by rw [getD_true_iff (by omega)]; exact h)
    omega⟩
  refine ⟨?_, hend L a w γ n hfull hI⟩
  cases hr : Region.ready .any r.ops L with
  | nil => rfl
  | cons i l =>
   have hi : i ∈ Region.ready .any r.ops L := by rw [hr]; simp
   obtain ⟨h1, o, ho, _⟩ := mem_ready.1 hi
   have hin : i < r.ops.size := (Array.getElem?_eq_some_iff.1 ho).1
   rw [getD_true_iff (by omega), hfull.2 i hin] at h1
   cases h1
 | succ fuel ih =>
  intro L a w γ n hL hu hcl hI
  refine ⟨fun hr => hend L a w γ n (hready L hL hr) hI, fun i hi => ?_⟩
  obtain ⟨h1, o, ho, hall⟩ := mem_ready.1 hi
  have hin : i < r.ops.size := (Array.getElem?_eq_some_iff.1 ho).1
  have hw : Region.wanted o (yielded r.ops a.tmps) = true := by unfold Region.wanted; rw [hg.guard i o ho]
  unfold wpOp
  rw [ho]
  simp only [hw, if_true]
  refine .inl (step_inv hg hs hstep hL hI ho h1 hall ?_ _ ?_)
  · rintro k ok hk ⟨e, he, hb, rfl⟩
    cases h : L.getD k false with
    | false => rfl
    | true =>
     have := hcl k ok hk h e he hb
     rw [getD_true_iff (by omega), this] at h1
     cases h1
  · intro a' w' γ' n' hI'
    have hlt := unl_set hL hin h1
    refine ih _ a' w' γ' n' (by simpa using hL) (by omega) ?_ hI'
    intro k ok hk hl e he hb
    rw [getD_set L i k (by omega)] at hl
    rw [getD_set L i e.on (by omega)]
    split
    · rfl
    · by_cases hki : k = i
      · subst hki
        rw [ho] at hk
        injection hk with hk
        subst hk
        exact hall e he hb
      · rw [if_neg hki] at hl
        exact hcl k ok hk hl e he hb
def fin (r : Reg) (γ : Nat → Nat) : Nat → Array Value → Array Value
 | 0, t => t
 | k + 1, t => match (r.ops[k]?).bind (·.dst) with
  | some d => (fin r γ k t).setIfInBounds d (r.vl γ k)
  | none => fin r γ k t
theorem fin_size (γ : Nat → Nat) : ∀ k t, (fin r γ k t).size = t.size
 | 0, _ => rfl
 | k + 1, t => by
  unfold fin
  split
  · rw [Array.size_setIfInBounds]; exact fin_size γ k t
  · exact fin_size γ k t
theorem fin_base (γ : Nat → Nat) (d : Nat) : ∀ k t, (∀ (j : Nat) (o : Oper), j < k → r.ops[j]? = some o → o.dst ≠ some d) → (fin r γ k t).getD d undef = t.getD d undef
 | 0, _, _ => rfl
 | k + 1, t, h => by
  unfold fin
  have ih := fin_base γ d k t (fun j o hj => h j o (by omega))
  split
  · rename_i d' hd
    cases ho : r.ops[k]? with
    | none => rw [ho] at hd; cases hd
    | some o =>
     rw [ho] at hd
     have hne : d' ≠ d := fun e => h k o (by omega) ho (by rw [← e]; exact hd)
     simpa [Array.getElem?_setIfInBounds_ne hne] using ih
  · exact ih
theorem fin_val (hg : r.Good) (γ : Nat → Nat) (d j : Nat) (o : Oper) (ho : r.ops[j]? = some o) (hd : o.dst = some d) : ∀ k, j < k → (fin r γ k r.a0.tmps).getD d undef = r.vl γ j
 | 0, h => by omega
 | k + 1, h => by
  unfold fin
  by_cases hjk : j = k
  · subst hjk
    rw [ho]
    simp only [Option.bind_some, hd]
    have hsz : d < (fin r γ j r.a0.tmps).size := by rw [fin_size]; exact hg.inb j o d ho hd
    simp [hsz]
  · have ih := fin_val hg γ d j o ho hd k (by omega)
    split
    · rename_i d' hd'
      cases hk : r.ops[k]? with
      | none => rw [hk] at hd'; cases hd'
      | some ok =>
       rw [hk] at hd'
       have hne : d' ≠ d := fun e => hjk (hg.dsts j k o ok d ho hk hd (by rw [← e]; exact hd'))
       simpa [Array.getElem?_setIfInBounds_ne hne] using ih
    · exact ih
theorem frame_full (hg : r.Good) {L : Array Bool} {a : Act} {w : World} {γ : Nat → Nat} {n : Nat} (hf : r.Full L) (hI : r.Inv L a w γ n) : a = { tmps := fin r γ r.ops.size r.a0.tmps, defers := r.a0.defers } := by
 obtain ⟨at_, ad⟩ := a
 have hd : ad = r.a0.defers := hI.defers
 have hs : at_.size = r.a0.tmps.size := hI.size
 subst hd
 congr 1
 apply Array.ext
 · rw [fin_size]; exact hs
 · intro t h1 h2
   have e1 : at_.getD t undef = at_[t] := by simp [Array.getD_eq_getD_getElem?, Array.getElem?_eq_getElem h1]
   have e2 : (fin r γ r.ops.size r.a0.tmps).getD t undef = (fin r γ r.ops.size r.a0.tmps)[t] := by simp [Array.getD_eq_getD_getElem?, Array.getElem?_eq_getElem h2]
   rw [← e1, ← e2]
   by_cases h : ∃ (j : Nat) (o : Oper), r.ops[j]? = some o ∧ o.dst = some t
   · obtain ⟨j, o, ho, hd⟩ := h
     have hj : j < r.ops.size := (Array.getElem?_eq_some_iff.1 ho).1
     rw [fin_val hg γ t j o ho hd _ hj]
     exact hI.val j o t ho (hf.2 j hj) hd
   · rw [fin_base γ t r.ops.size r.a0.tmps (fun j o _ ho hd => h ⟨j, o, ho, hd⟩)]
     exact hI.base t (fun j o ho _ hd => h ⟨j, o, ho, hd⟩)
theorem wp_region (r : Reg) (hg : r.Good) (hs : r.Stands) {P : Program} {Q : Exit → Act → World → Prop} {id : Nat} {w : World} (hm : P.follows .mixedOrders = true)
 (hS : r.S 0 w.drew) (hold : ∀ j T c, r.kd j = .new T c → r.ops.size ≤ j → Blk w (r.O j) T c ∧ r.F w.drew (r.O j) ∧ r.B ≤ r.O j)
 (hne : ∀ i j, r.isNew i = true → r.isNew j = true → r.ops.size ≤ i → r.ops.size ≤ j → i ≠ j → r.O i ≠ r.O j)
 (hstep : ∀ i o, r.ops[i]? = some o → r.StepOk P Q i o)
 (hend : ∀ w' γ, r.S r.E.length w' → (∀ j T c, r.kd j = .new T c → ∀ c', r.cont (Array.replicate r.ops.size true) j c = c' → Blk w' (γ j) T c' ∧ r.F w' (γ j) ∧ r.B ≤ γ j) → (∀ i j, r.isNew i = true → r.isNew j = true → i ≠ j → γ i ≠ γ j) → (∀ j, r.ops.size ≤ j → γ j = r.O j) →
   Q .normal { tmps := fin r γ r.ops.size r.a0.tmps, defers := r.a0.defers } w') : (Code.region id r.ops true).wp P Q r.a0 w := by
 refine wp_region_any hm (wpAny_inv hg hs hstep (fun L a w' γ n hf hI => ?_) r.ops.size (Array.replicate r.ops.size false) r.a0 _ r.O 0 (by simp) ?_ ?_ ?_)
 · rw [frame_full hg hf hI]
   have hL : L = Array.replicate r.ops.size true := by
    apply Array.ext
    · rw [hf.1]; simp
    · intro k h1 h2
      have := hf.2 k (by rw [← hf.1]; exact h1)
      rw [Array.getElem_replicate]
      simpa [Array.getD_eq_getD_getElem?, Array.getElem?_eq_getElem h1] using this
   subst hL
   have hlive : ∀ j, r.live (Array.replicate r.ops.size true) j := fun j => by
    by_cases h : j < r.ops.size
    · exact .inl (hf.2 j h)
    · exact .inr (by omega)
   have hn : n = r.E.length := by
    rcases Nat.lt_or_ge n r.E.length with h | h
    · obtain ⟨e, he⟩ : ∃ e, r.E[n]? = some e := ⟨_, List.getElem?_eq_getElem h⟩
      have hc : r.E.contains e = true := by simpa using List.mem_of_getElem? he
      have := (hI.eff n e he).1 (hf.2 e (hg.effv e hc).1)
      omega
    · have := hI.top; omega
   subst hn
   exact hend w' γ hI.S (fun j T c hj c' hc => hc ▸ hI.blk j T c hj (hlive j)) (fun i j h1 h2 h3 => hI.ne i j h1 h2 (hlive i) (hlive j) h3) hI.old
 · unfold unl
   have := List.length_filter_le (fun i => !(Array.replicate r.ops.size false).getD i true) (List.range r.ops.size)
   simpa using this
 · intro k o hk hl
   simp [Array.getD_eq_getD_getElem?, Array.getElem?_replicate] at hl
   split at hl <;> cases hl
 · have hno : ∀ k, (Array.replicate r.ops.size false).getD k false = false := fun k => by
    simp [Array.getD_eq_getD_getElem?, Array.getElem?_replicate]; split <;> rfl
   have hlv : ∀ j, r.live (Array.replicate r.ops.size false) j → r.ops.size ≤ j := fun j hj => by
    rcases hj with h | h
    · rw [hno] at h; cases h
    · exact h
   refine ⟨hS, (fun j e _ => by rw [hno]; simp), Nat.zero_le _, rfl, rfl, fun _ _ => rfl, (fun k o t _ hl => by rw [hno] at hl; cases hl), ?_, (fun i j h1 h2 h3 h4 h5 => hne i j h1 h2 (hlv i h3) (hlv j h4) h5), fun _ _ => rfl⟩
   intro j T c hj hl
   rw [cont_none (fun k _ _ => hno k)]
   obtain ⟨h1, h2, h3⟩ := hold j T c hj (hlv j hl)
   exact ⟨h1, h2, h3⟩
def effB (r : Reg) : Bool :=
 (List.range r.E.length).all fun j => match r.E[j]? with
   | none => true
   | some e => decide (e < r.ops.size) && (match r.kd e with | .val => true | _ => false) && (List.range j).all (fun k => r.E[k]? != some e) &&
    (match r.E[j + 1]? with
     | some e' => (match r.ops[e']? with | some o => o.after.any (fun d => Region.binds .any d && d.on == e) | none => true)
     | none => true)
def goodB (r : Reg) (m : Nat) : Bool :=
 effB r &&   (List.range r.ops.size).all fun i => match r.ops[i]? with
  | none => true
  | some o => o.guard.isNone && o.after.all (fun e => !Region.binds .any e || decide (e.on < i)) &&
   (match o.dst with
    | some t => decide (t < m) && (List.range i).all (fun j => match r.ops[j]? with | some oj => oj.dst != some t | none => true)
    | none => true) &&
   (match r.kd i with
    | .put j _ => o.dst.isNone && r.isNew j && (decide (r.ops.size ≤ j) || o.after.any (fun e => Region.binds .any e && e.on == j)) && (List.range r.ops.size).all (fun k => k == i || !r.puts k j)
    | _ => true)
theorem good_of (r : Reg) (m : Nat) (hm : r.a0.tmps.size = m) (h : goodB r m = true) : r.Good := by
 subst hm
 have key : ∀ (i : Nat) (o : Oper), r.ops[i]? = some o → _ := fun i o ho => by
  have hin : i < r.ops.size := (Array.getElem?_eq_some_iff.1 ho).1
  have := List.all_eq_true.1 (Bool.and_eq_true_iff.1 h).2 i (List.mem_range.2 hin)
  rw [ho] at this
  simp only [Bool.and_eq_true] at this
  exact this
 have keyE : ∀ (j e : Nat), r.E[j]? = some e → _ := fun j e he => by
  have hin : j < r.E.length := (List.getElem?_eq_some_iff.1 he).1
  have := List.all_eq_true.1 (Bool.and_eq_true_iff.1 h).1 j (List.mem_range.2 hin)
  rw [he] at this
  simp only [Bool.and_eq_true, decide_eq_true_eq] at this
  exact this
 refine ⟨fun i o ho => ?_, fun i o ho e he hb => ?_, ?_, fun i o t ho ht => ?_, fun i o j c ho hk => ?_, ?_, fun i hc => ?_, ?_, fun j e e' o h1 h2 h3 => ?_⟩
 · have := (key i o ho).1.1.1
   cases hg : o.guard with
   | none => rfl
   | some g => rw [hg] at this; cases this
 · have := Array.all_eq_true'.1 (key i o ho).1.1.2 e he
   rw [hb] at this
   simpa using this
 · have half : ∀ (i j : Nat) (oi oj : Oper) (t : Nat), r.ops[i]? = some oi → r.ops[j]? = some oj → oi.dst = some t → oj.dst = some t → ¬ j < i := fun i j oi oj t h1 h2 h3 h4 hlt => by
    have := (key i oi h1).1.2
    rw [h3] at this
    simp only [Bool.and_eq_true] at this
    have := List.all_eq_true.1 this.2 j (List.mem_range.2 hlt)
    rw [h2] at this
    simp [h4] at this
   intro i j oi oj t h1 h2 h3 h4
   have a := half i j oi oj t h1 h2 h3 h4
   have b := half j i oj oi t h2 h1 h4 h3
   omega
 · have := (key i o ho).1.2
   rw [ht] at this
   simp only [Bool.and_eq_true, decide_eq_true_eq] at this
   exact this.1
 · have := (key i o ho).2
   rw [hk] at this
   simp only [Bool.and_eq_true, Bool.or_eq_true, decide_eq_true_eq] at this
   obtain ⟨⟨⟨h1, h2⟩, h3⟩, _⟩ := this
   refine ⟨?_, h2, ?_⟩
   · cases hd : o.dst with
     | none => rfl
     | some d => rw [hd] at h1; cases h1
   · rcases h3 with h3 | h3
     · exact .inl h3
     · obtain ⟨e, he, h4⟩ := Array.any_eq_true'.1 h3
       simp only [Bool.and_eq_true, beq_iff_eq] at h4
       exact .inr ⟨e, he, h4.1, h4.2⟩
 · intro i k j hi hk h1 h2
   have ho : r.ops[i]? = some r.ops[i] := Array.getElem?_eq_getElem hi
   have := (key i _ ho).2
   unfold puts at h1
   cases hkd : r.kd i with
   | put j' c =>
    rw [hkd] at h1 this
    have hj : j' = j := by simpa using h1
    subst hj
    simp only [Bool.and_eq_true] at this
    have := List.all_eq_true.1 this.2 k (List.mem_range.2 hk)
    simp [h2] at this
    exact this.symm
   | _ => rw [hkd] at h1; cases h1
 · obtain ⟨j, hj⟩ := List.mem_iff_getElem?.1 (by simpa using hc : i ∈ r.E)
   have := keyE j i hj
   refine ⟨this.1.1.1, ?_⟩
   have h2 := this.1.1.2
   cases hk : r.kd i with
   | val => rfl
   | _ => rw [hk] at h2; cases h2
 · have half : ∀ (j k e : Nat), r.E[j]? = some e → r.E[k]? = some e → ¬ k < j := fun j k e h1 h2 hlt => by
    have := List.all_eq_true.1 (keyE j e h1).1.2 k (List.mem_range.2 hlt)
    rw [h2] at this
    simp at this
   intro j k e h1 h2
   have a := half j k e h1 h2
   have b := half k j e h2 h1
   omega
 · have := (keyE j e h1).2
   rw [h2] at this
   simp only [h3] at this
   obtain ⟨d, hd, h4⟩ := Array.any_eq_true'.1 this
   simp only [Bool.and_eq_true, beq_iff_eq] at h4
   exact ⟨d, hd, h4.1, h4.2⟩
def depB (o : Oper) (j : Nat) : Bool := o.after.any fun e => Region.binds .any e && e.on == j
def baseB (ops : Array Oper) (i t : Nat) : Bool := (List.range ops.size).all fun k => match ops[k]? with
 | some ok => ok.dst != some t || k == i || depB ok i
 | none => true
theorem depB_spec {o : Oper} {j : Nat} (h : depB o j = true) : ∃ e ∈ o.after, Region.binds .any e = true ∧ e.on = j := by
 obtain ⟨e, he, h4⟩ := Array.any_eq_true'.1 h
 simp only [Bool.and_eq_true, beq_iff_eq] at h4
 exact ⟨e, he, h4.1, h4.2⟩
theorem Pre.at_ {i : Nat} {o : Oper} {a : Act} {w : World} {γ : Nat → Nat} {n : Nat} (h : r.Pre i o a w γ n) (t j : Nat) (hj : (r.ops[j]?).bind (·.dst) = some t) (hb : depB o j = true) : a.tmps.getD t undef = r.vl γ j := by
 obtain ⟨e, he, h1, rfl⟩ := depB_spec hb
 cases ho : r.ops[e.on]? with
 | none => rw [ho] at hj; cases hj
 | some oj => rw [ho] at hj; exact h.dep e he h1 oj t ho hj
theorem Pre.base_ {i : Nat} {o : Oper} {a : Act} {w : World} {γ : Nat → Nat} {n : Nat} (h : r.Pre i o a w γ n) (t : Nat) (hb : baseB r.ops i t = true) : a.tmps.getD t undef = r.a0.tmps.getD t undef := by
 refine h.base t (fun k ok hk hd => ?_)
 have hin : k < r.ops.size := (Array.getElem?_eq_some_iff.1 hk).1
 have := List.all_eq_true.1 hb k (List.mem_range.2 hin)
 rw [hk] at this
 simp only [hd, Bool.or_eq_true, beq_iff_eq] at this
 rcases this with (h1 | h1) | h1
 · simp at h1
 · exact .inl h1
 · exact .inr (depB_spec h1)
def noputB (r : Reg) (i j : Nat) : Bool := (List.range r.ops.size).all fun k => !r.puts k j || k == i || (match r.ops[k]? with | some ok => depB ok i | none => false)
theorem Pre.blk_ {i : Nat} {o : Oper} {a : Act} {w : World} {γ : Nat → Nat} {n : Nat} (h : r.Pre i o a w γ n) (j : Nat) {T : TypeId} {c : List Value} (hj : r.kd j = .new T c := by kernel_rfl) (hb : (decide (r.ops.size ≤ j) || depB o j) = true := by kernel_rfl) (hn : noputB r i j = true := by kernel_rfl) :
 Blk w (γ j) T c ∧ r.F w (γ j) ∧ r.B ≤ γ j := by
 refine h.blk j T c hj ?_ (fun k hk hp => ?_)
 · simp only [Bool.or_eq_true, decide_eq_true_eq] at hb
   exact hb.imp id depB_spec
 · have := List.all_eq_true.1 hn k (List.mem_range.2 hk)
   simp only [hp, Bool.not_true, Bool.false_or, Bool.or_eq_true, beq_iff_eq] at this
   rcases this with h1 | h1
   · exact .inl h1
   · cases ho : r.ops[k]? with
     | none => rw [ho] at h1; cases h1
     | some ok => rw [ho] at h1; exact .inr ⟨ok, rfl, depB_spec h1⟩
def Steps (r : Reg) (P : Program) (Q : Exit → Act → World → Prop) : Nat → List Oper → Prop
 | _, [] => True
 | i, o :: l => r.StepOk P Q i o ∧ Steps r P Q (i + 1) l
theorem Steps.all {P : Program} {Q : Exit → Act → World → Prop} : ∀ (n : Nat) (l : List Oper), r.Steps P Q n l → ∀ i o, l[i]? = some o → r.StepOk P Q (n + i) o
 | n, [], _, i, o, h => by simp at h
 | n, o' :: l, hs, 0, o, h => by simp at h; subst h; exact hs.1
 | n, o' :: l, hs, i + 1, o, h => by
  have := Steps.all (n + 1) l hs.2 i o (by simpa using h)
  rwa [show n + (i + 1) = n + 1 + i by omega]
theorem steps_of {P : Program} {Q : Exit → Act → World → Prop} (l : List Oper) (hl : r.ops = l.toArray) (h : r.Steps P Q 0 l) : ∀ i o, r.ops[i]? = some o → r.StepOk P Q i o := fun i o ho => by
 have := Steps.all 0 l h i o (by rw [hl] at ho; simpa using ho)
 rwa [Nat.zero_add] at this
end Reg
end Go.Proofs.YtihgijhjhmjolaaGreatDoor

/- Slices of bytes as strings. -/
namespace Go.Proofs.YtihgijhjhmjolaaGreatDoor
open Go.RowKit Go.Deep
set_option linter.unusedVariables false
def Bs (w : World) (v : Value) (s : ByteArray) : Prop := Sl w v (s.data.toList.map fun b => .int .u8 b.toNat)
theorem Bs.chg {w w' : World} {v : Value} {s : ByteArray} (h : Bs w v s) (hc : Chg w w' []) : Bs w' v s := Sl.keep h hc
theorem Bs.nil (w : World) : Bs w (.slice none 0 0) ⟨#[]⟩ := ⟨none, 0, rfl, Nat.le_refl _, fun h => absurd h (by simp)⟩
theorem Bs.of_ints {w : World} {v : Value} {z : List Int} (h : Sl w v (z.map (.int .u8))) (hz : ∀ n ∈ z, (Lit.int .u8 n).wf = true) : Bs w v (strOfNums z) := by
 have e : (strOfNums z).data.toList.map (fun b => Value.int .u8 b.toNat) = z.map (.int .u8) := by
  rw [strOfNums_data, List.map_map]
  refine List.map_congr_left fun n hn => ?_
  have hw := hz n hn
  simp only [Lit.wf, IntKind.min, IntKind.max, IntKind.signed, IntKind.bits] at hw
  simp at hw
  show Value.int .u8 ((UInt8.ofNat n.toNat).toNat : Int) = .int .u8 n
  congr 1
  rw [UInt8.toNat_ofNat']
  omega
 unfold Bs
 rw [e]
 exact h
theorem conv_str {w : World} {v : Value} {s : ByteArray} (h : Bs w v s) : (convert 26 9 v).run Tryz.prog w = .ok (.string s) w := by
 obtain ⟨A, c, hv, hc, hx⟩ := h
 have hl : (s.data.toList.map fun b => Value.int .u8 b.toNat).length = s.data.toList.length := by simp
 rw [hl] at hv hx
 by_cases h0 : 0 < s.data.toList.length
 · obtain ⟨b, off, rfl, hk⟩ := hx h0
   rw [hv]
   have := run_convert_bytes_back (P := Tryz.prog) w 26 9 5 ⟨b, off, none⟩ c s.data.toList Tryz.underlying26 Tryz.underlying5 Tryz.underlying9 (fun j hj => by
    rw [add_plain, hk j hj, List.getElem?_map, List.getElem?_eq_getElem hj]
    rfl)
   rw [this]
 · have hn : s.data.toList.length = 0 := by omega
   have hs : s = ⟨#[]⟩ := by
    apply ByteArray.ext
    have := List.length_eq_zero_iff.1 hn
    exact Array.toList_inj.mp this
   rw [hv, hn, hs]
   cases A with
   | none => exact run_convert_bytes_nil w 26 5 Tryz.underlying26 Tryz.underlying5 0 c 9 Tryz.underlying9
   | some a =>
    have := run_convert_bytes_back (P := Tryz.prog) w 26 9 5 a c [] Tryz.underlying26 Tryz.underlying5 Tryz.underlying9 (fun j hj => absurd hj (by simp))
    exact this
end Go.Proofs.YtihgijhjhmjolaaGreatDoor
