/- Regions by slots, for walks that only make memory beside what S knows. No program is in sight. -/
import Derived.Test.YtkfkoobdmnndcaaGreatSlots
import Derived.Test.YtkfkoobdmnndcaaGreatKeep
namespace Go.Proofs.YtkfkoobdmnndcaaGreat
open Go.RowKit
set_option linter.unusedVariables false

/-- What each operation does: the list, and behind it the blocks that were made ahead of the region. -/
def kdOf (n : Nat) (L : List Kd) (olds : List (TypeId × List Value)) (k : Nat) : Kd :=
  if k < n then L.getD k .val else match olds[k - n]? with
    | some (T, c) => .new T c
    | none => .val
/-- A region by lists. -/
def Reg.of (n : Nat) (ops : Array Oper) (a0 : Act) (VL : List Value) (NL : List (Nat → Value)) (KL : List Kd) (olds : List (TypeId × List Value)) (OL : List Nat) (E : List Nat) (S : Nat → World → Prop) (F : World → Nat → Prop) : Reg :=
  { ops := ops, a0 := a0, V := fun k => VL.getD k undef, N := fun k => NL.getD k (fun _ => undef), kd := kdOf n KL olds, O := fun k => OL.getD (k - n) 0, S := S, F := F, B := 0, E := E }

theorem Reg.Post.val {r : Reg} {i : Nat} {o : Oper} {a : Act} {w : World} {γ : Nat → Nat} {n : Nat} {K : Act → World → Prop} (h : r.Post i o a w γ n K) (v : Value) (hk : r.kd i = .val) (hv : r.V i = v) :
    ∀ w', r.S (r.nxt i n) w' → r.Keep w w' → K (a.put o.dst v) w' := by
  unfold Reg.Post at h; rw [hk] at h; subst hv; exact h
theorem Reg.Post.pure {r : Reg} {i : Nat} {o : Oper} {a : Act} {w : World} {γ : Nat → Nat} {n : Nat} {K : Act → World → Prop} (h : r.Post i o a w γ n K) (v : Value) (hS : r.S n w) (hk : r.kd i = .val := by kernel_rfl) (hv : r.V i = v := by kernel_rfl) (he : r.E.contains i = false := by kernel_rfl) :
    K (a.put o.dst v) w := by
  refine h.val v hk hv w ?_ ⟨Nat.le_refl _, fun g _ h => ⟨h, rfl⟩⟩
  unfold Reg.nxt; rw [he]; exact hS
theorem Reg.Post.call {r : Reg} {i : Nat} {o : Oper} {a : Act} {w : World} {γ : Nat → Nat} {n : Nat} {K : Act → World → Prop} (h : r.Post i o a w γ n K) (v : Value) (hk : r.kd i = .val := by kernel_rfl) (hv : r.V i = v := by kernel_rfl) (he : r.E.contains i = false := by kernel_rfl) :
    ∀ w', r.S n w' → r.Keep w w' → K (a.put o.dst v) w' := by
  intro w' hS hK
  refine h.val v hk hv w' ?_ hK
  unfold Reg.nxt; rw [he]; exact hS
/-- The call number j of those that S counts. -/
theorem Reg.Post.eff {r : Reg} {i : Nat} {o : Oper} {a : Act} {w : World} {γ : Nat → Nat} {n : Nat} {K : Act → World → Prop} (h : r.Post i o a w γ n K) (v : Value) (hk : r.kd i = .val := by kernel_rfl) (hv : r.V i = v := by kernel_rfl) (he : r.E.contains i = true := by kernel_rfl) :
    ∀ w', r.S (n + 1) w' → r.Keep w w' → K (a.put o.dst v) w' := by
  intro w' hS hK
  refine h.val v hk hv w' ?_ hK
  unfold Reg.nxt; rw [he]; exact hS
theorem Reg.Post.new {r : Reg} {i : Nat} {o : Oper} {a : Act} {w : World} {γ : Nat → Nat} {n : Nat} {K : Act → World → Prop} (h : r.Post i o a w γ n K) (T : TypeId) (c : List Value) (f : Nat → Value) (hk : r.kd i = .new T c := by kernel_rfl) (hv : r.N i = f := by kernel_rfl) :
    K (a.put o.dst (f w.heap.size)) (w.alloc (.cells c.toArray T)) := by
  unfold Reg.Post at h; rw [hk] at h; subst hv; exact h
theorem Reg.Post.put {r : Reg} {i : Nat} {o : Oper} {a : Act} {w : World} {γ : Nat → Nat} {n : Nat} {K : Act → World → Prop} (h : r.Post i o a w γ n K) (j : Nat) (T : TypeId) (c0 c : List Value) (hk : r.kd i = .put j c := by kernel_rfl) (hj : r.kd j = .new T c0 := by kernel_rfl) :
    ∀ w', Blk w' (γ j) T c → Chg w w' [γ j] → w'.heap.size = w.heap.size → K (a.put o.dst undef) w' := by
  unfold Reg.Post at h; rw [hk] at h
  exact fun w' hb => h w' (fun T' c' e => by rw [hj] at e; injection e with e1 e2; rw [← e1]; exact hb)
theorem Reg.Pre.dep_ {r : Reg} {i : Nat} {o : Oper} {a : Act} {w : World} {γ : Nat → Nat} {n : Nat} (h : r.Pre i o a w γ n) (t j : Nat) (v : Value) (hj : (r.ops[j]?).bind (·.dst) = some t := by kernel_rfl) (hb : Reg.depB o j = true := by kernel_rfl) (hv : r.vl γ j = v := by kernel_rfl) :
    a.tmps.getD t undef = v ∧ a.tmps[t]?.getD undef = v := by
  have e := (h.at_ t j hj hb).trans hv
  exact ⟨e, by rw [← e]; exact (Array.getD_eq_getD_getElem? ..).symm⟩
theorem Reg.Pre.old_ {r : Reg} {i : Nat} {o : Oper} {a : Act} {w : World} {γ : Nat → Nat} {n : Nat} (h : r.Pre i o a w γ n) (t : Nat) (v : Value) (hb : Reg.baseB r.ops i t = true := by kernel_rfl) (hv : r.a0.tmps.getD t undef = v := by kernel_rfl) :
    a.tmps.getD t undef = v ∧ a.tmps[t]?.getD undef = v := by
  have e := (h.base_ t hb).trans hv
  exact ⟨e, by rw [← e]; exact (Array.getD_eq_getD_getElem? ..).symm⟩
theorem Reg.keep_refl (r : Reg) (w : World) : r.Keep w w := ⟨Nat.le_refl _, fun g _ h => ⟨h, rfl⟩⟩

/-- Only D and new blocks have turned since w6, and the cells hold what they held. -/
structure Sd (w6 : World) (D : List Nat) (cells : List (Addr × Value)) (w : World) : Prop where
  chg : Chg w6 w D
  cell : ∀ p ∈ cells, w.cell? p.1 = some p.2
def Fd (w6 : World) (D U : List Nat) (w : World) (g : Nat) : Prop := g ∉ U ∧ (g ∈ D ∨ w6.heap.size ≤ g)
theorem Sd.at_ {w6 w : World} {D : List Nat} {cells : List (Addr × Value)} (h : Sd w6 D cells w) (k : Nat) (a : Addr) (v : Value) (hk : cells[k]? = some (a, v)) : w.cell? a = some v :=
  h.cell (a, v) (List.mem_of_getElem? hk)
theorem Sd.call {w6 w w' : World} {D : List Nat} {cells : List (Addr × Value)} (h : Sd w6 D cells w) (hc : Chg w w' []) : Sd w6 D cells w' :=
  ⟨h.chg.trans hc (by simp), fun p hp => hc.cell (h.cell p hp) (by simp)⟩
theorem Reg.keep_call (r : Reg) {w6 w w' : World} {D U : List Nat} (hF : r.F = Fd w6 D U) (hc : Chg w w' []) : r.Keep w w' :=
  ⟨hc.size, fun g hg h => ⟨by rw [hF] at h ⊢; exact h, hc.block g hg (by simp)⟩⟩
theorem stands_d (r : Reg) (w6 : World) (D U : List Nat) (cells : List (Addr × Value)) (hS : r.S = fun _ => Sd w6 D cells) (hF : r.F = Fd w6 D U) (hB : r.B = 0)
    (hU : ∀ p ∈ cells, p.1.block ∈ U) (hlt : ∀ u ∈ U, u < w6.heap.size) : r.Stands := by
  refine ⟨fun n w o h => ?_, fun n w o g _ h => ?_, fun n w o h => ?_, fun n w w' g h hf _ _ hc hsz => ?_⟩
  · rw [hS] at h ⊢; exact h.call ((Chg.refl w []).alloc o)
  · rw [hF] at h ⊢; exact h
  · rw [hS] at h
    rw [hF, hB]
    have := h.chg.size
    refine ⟨⟨fun hu => ?_, .inr this⟩, Nat.zero_le _⟩
    have := hlt _ hu
    omega
  · rw [hS] at h ⊢
    rw [hF] at hf ⊢
    refine ⟨⟨h.chg.trans hc (by simpa using hf.2), fun p hp => ?_⟩, fun g' h' => h'⟩
    exact hc.cell (h.cell p hp) (by simp; intro e; exact hf.1 (e ▸ hU p hp))

theorem hold_of {n : Nat} {ops : Array Oper} {a0 : Act} {VL : List Value} {NL : List (Nat → Value)} {KL : List Kd} {olds : List (TypeId × List Value)} {OL : List Nat} {E : List Nat} {S : Nat → World → Prop} {F : World → Nat → Prop} {w w1 : World} (hn : ops.size = n)
    (h : ∀ k T c, olds[k]? = some (T, c) → Blk w (OL.getD k 0) T c ∧ F w1 (OL.getD k 0)) :
    ∀ j T c, (Reg.of n ops a0 VL NL KL olds OL E S F).kd j = .new T c → (Reg.of n ops a0 VL NL KL olds OL E S F).ops.size ≤ j → Blk w ((Reg.of n ops a0 VL NL KL olds OL E S F).O j) T c ∧ (Reg.of n ops a0 VL NL KL olds OL E S F).F w1 ((Reg.of n ops a0 VL NL KL olds OL E S F).O j) ∧ (Reg.of n ops a0 VL NL KL olds OL E S F).B ≤ (Reg.of n ops a0 VL NL KL olds OL E S F).O j := by
  intro j T c hj hle
  have hle' : ops.size ≤ j := hle
  have hj' : kdOf n KL olds j = .new T c := hj
  unfold kdOf at hj'
  rw [if_neg (by omega)] at hj'
  cases ho : olds[j - n]? with
  | none => rw [ho] at hj'; cases hj'
  | some p =>
    obtain ⟨T', c'⟩ := p
    rw [ho] at hj'
    injection hj' with h1 h2
    subst h1 h2
    have := h (j - n) T' c' ho
    exact ⟨this.1, this.2, Nat.zero_le _⟩
theorem ne_of {n : Nat} {ops : Array Oper} {a0 : Act} {VL : List Value} {NL : List (Nat → Value)} {KL : List Kd} {olds : List (TypeId × List Value)} {OL : List Nat} {E : List Nat} {S : Nat → World → Prop} {F : World → Nat → Prop} (hn : ops.size = n)
    (h : ∀ i j, i < olds.length → j < olds.length → i ≠ j → OL.getD i 0 ≠ OL.getD j 0) :
    ∀ i j, (Reg.of n ops a0 VL NL KL olds OL E S F).isNew i = true → (Reg.of n ops a0 VL NL KL olds OL E S F).isNew j = true → (Reg.of n ops a0 VL NL KL olds OL E S F).ops.size ≤ i → (Reg.of n ops a0 VL NL KL olds OL E S F).ops.size ≤ j → i ≠ j → (Reg.of n ops a0 VL NL KL olds OL E S F).O i ≠ (Reg.of n ops a0 VL NL KL olds OL E S F).O j := by
  have key : ∀ i, (Reg.of n ops a0 VL NL KL olds OL E S F).isNew i = true → n ≤ i → i - n < olds.length := fun i h1 h2 => by
    have h1' : (match kdOf n KL olds i with | .new _ _ => true | _ => false) = true := h1
    unfold kdOf at h1'
    rw [if_neg (by omega)] at h1'
    cases ho : olds[i - n]? with
    | none => rw [ho] at h1'; cases h1'
    | some p => exact (List.getElem?_eq_some_iff.1 ho).1
  intro i j h1 h2 h3 h4 h5
  have h3' : ops.size ≤ i := h3
  have h4' : ops.size ≤ j := h4
  exact h (i - n) (j - n) (key i h1 (by omega)) (key j h2 (by omega)) (by omega)

/-- The frame behind, from a list of what was put. -/
theorem end_of {r : Reg} {Q : Exit → Act → World → Prop} {γ : Nat → Nat} {w' : World} (l : List (Nat × Value)) (ht : Reg.fin r γ r.ops.size r.a0.tmps = l.foldl (fun t p => t.setIfInBounds p.1 p.2) r.a0.tmps)
    (h : Q .normal { tmps := l.foldl (fun t p => t.setIfInBounds p.1 p.2) r.a0.tmps, defers := r.a0.defers } w') :
    Q .normal { tmps := Reg.fin r γ r.ops.size r.a0.tmps, defers := r.a0.defers } w' := by rw [ht]; exact h
end Go.Proofs.YtkfkoobdmnndcaaGreat
