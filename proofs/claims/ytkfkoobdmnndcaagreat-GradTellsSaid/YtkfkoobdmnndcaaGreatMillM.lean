/- Xi: runs on the mill of numbers: calls that are handed a mill answer words, and may add cells to the mill. -/
import Derived.Test.YtkfkoobdmnndcaaGreatXiV
import Derived.Test.YtkfkoobdmnndcaaGreatSlots3
namespace Go.Proofs.YtkfkoobdmnndcaaGreat.Xi
open Go Go.RowKit
set_option linter.unusedVariables false
set_option linter.unusedSimpArgs false

theorem Fr.some_chg {w w' : World} {D : Nat → Prop} (h : Fr w w' D) : ∃ L : List Nat, Chg w w' L ∧ ∀ k ∈ L, D k := by
  classical
  refine ⟨(List.range w.heap.size).filter fun k => decide (D k), ⟨h.os, h.tape, h.output, h.size, fun k hk hn => h.block k hk fun hd => hn ?_⟩, fun k hk => ?_⟩
  · simp [List.mem_filter, hk, hd]
  · have := (List.mem_filter.1 hk).2
    simpa using this

/-- The mill at b, with at most so many cells and tables. -/
def MillM (P : Program) (b : Nat) : Mach P where
  σ := Nat
  I := fun n w => PlR w b (most n)
  fp := fun _ w => dof w b
  lt := fun _ w h => h.lt
  keep := fun s w w' D h hf hD => by
    obtain ⟨L, hc, hL⟩ := hf.some_chg
    have hn : ∀ k ∈ dof w b, k ∉ L := fun k hk hm => hD k (hL k hm) hk
    exact ⟨h.chg hc hn, dof_chg h hc (hn b h.mem)⟩
  step := fun n f cas v n' => ∀ (w : World) (args : List Value), PlR w b (most n) → ArgsOk (dof w b) w args cas → Calls P f args.toArray w fun e w' => e = .returned v ∧ PlR w' b (most n') ∧ Turn w b w'
  beg := fun _ _ _ _ _ _ => False
  fin := fun _ _ _ => False
  step_ok := fun s w f args cas v s' hI ha hs => (hs w args hI ha).mono fun e w' ⟨he, hp, ht⟩ => ⟨he, hp, Fr.of_chg ht.chg, ht.sub⟩
  loop_ok := fun _ _ _ _ _ _ _ _ _ _ _ _ _ hb => hb.elim

/-- What a call is handed. -/
inductive MA where
  | mill (p : Addr)
  | bare (p : Addr)
  | w (x : Wd)
  | a (l : List Wd)
/-- What it answers. -/
inductive MO where
  | w (x : Wd)
  | a (l : List Wd)
  | t (l : List MO)
  | v (x : Value)
def wv (x : Wd) : Value := .int .i32 x.v
def wvs (l : List Wd) : List Value := l.map wv
def MA.val : MA → Value
  | .mill p => .agg #[.iface 59 (.pointer (some p))]
  | .bare p => .pointer (some p)
  | .w x => wv x
  | .a l => .agg (wvs l).toArray
mutual
def MO.val : MO → Value
  | .w x => wv x
  | .a l => .agg (wvs l).toArray
  | .t l => .tuple (MO.vals l).toArray
  | .v x => x
def MO.vals : List MO → List Value
  | [] => []
  | o :: l => o.val :: MO.vals l
end
/-- A call's answer, and how many cells are new. -/
structure EntM (b : Nat) where
  f : FuncId
  top : Nat
  fn : List MA → Option (MO × Nat)
  ok : ∀ us o d, fn us = some (o, d) → (∀ p, (MA.mill p ∈ us ∨ MA.bare p ∈ us) → p = ⟨b, 0, none⟩) → ∀ n w, n ≤ top → PlR w b (most n) →
    Calls Tryz.prog f (us.map MA.val).toArray w fun e w' => e = .returned o.val ∧ PlR w' b (most (n + d)) ∧ Turn w b w'

/-! ### Parsing -/
def pw (ρ : List Wd) : AV → Option Wd
  | .opq i => nth ρ i
  | .lit (.int .i32 n) => bif (Lit.int .i32 n).wf then some (kW n) else none
  | _ => none
def pwL (ρ : List Wd) : List AV → Option (List Wd)
  | [] => some []
  | a :: l => match pw ρ a, pwL ρ l with | some x, some xs => some (x :: xs) | _, _ => none
def pm (ρ : List Wd) : EA → Option MA
  | .v (.agg [.ifc t (.lit (.pointer (some p)))]) => bif Nat.beq t 59 then some (.mill p) else none
  | .v (.lit (.pointer (some p))) => some (.bare p)
  | .v (.agg cs) => match pwL ρ cs with | some xs => some (.a xs) | none => none
  | .v a => match pw ρ a with | some x => some (.w x) | none => none
  | .l _ => none
def pms (ρ : List Wd) : List EA → Option (List MA)
  | [] => some []
  | a :: l => match pm ρ a, pms ρ l with | some x, some xs => some (x :: xs) | _, _ => none
def ptrs : List MA → List Addr
  | [] => []
  | .mill p :: l => p :: ptrs l
  | .bare p :: l => p :: ptrs l
  | .w _ :: l => ptrs l
  | .a _ :: l => ptrs l
/-- Unknown values by what they are found to be. -/
def bw : List AV → List Wd → List Wd → Option (List Wd)
  | [], [], ρ => some ρ
  | .opq i :: l, x :: xs, ρ => bif Nat.beq i (lenL ρ) then fL (ρ ++ [x]) fun ρ => bw l xs ρ else none
  | _, _, _ => none
def b1 : AV → MO → List Wd → Option (List Wd)
  | .opq i, .w x, ρ => bw [.opq i] [x] ρ
  | .agg cs, .a xs, ρ => bw cs xs ρ
  | _, _, _ => none
def bl : List AV → List MO → List Wd → Option (List Wd)
  | [], [], ρ => some ρ
  | a :: l, o :: os, ρ => match b1 a o ρ with | some ρ' => bl l os ρ' | none => none
  | _, _, _ => none
def bo : AV → MO → List Wd → Option (List Wd)
  | .tup l, .t os, ρ => bl l os ρ
  | a, o, ρ => b1 a o ρ
def findM {b : Nat} : List (EntM b) → FuncId → Option (EntM b)
  | [], _ => none
  | e :: l, f => bif Nat.beq e.f f then some e else findM l f
/-- Run on: words, how many new cells, the mills that were met. -/
def runE {b : Nat} (H : Nat) (tab : List (EntM b)) : List Ev → List Wd → Nat → List Addr → Option (List Wd × Nat × List Addr)
  | [], ρ, k, ps => some (ρ, k, ps)
  | .call f args out :: l, ρ, k, ps => match pms ρ args, findM tab f with
    | some us, some e => match e.fn us with
      | some (o, d) => bif Nat.ble (H + k) e.top then (match bo out o ρ with
        | some ρ' => fL ρ' fun ρ' => fN (k + d) fun k => runE H tab l ρ' k (ptrs us ++ ps)
        | none => none) else none
      | none => none
    | _, _ => none
  | _ :: _, _, _, _ => none
def pout1 (ρ : List Wd) : AV → Option MO
  | .agg cs => match pwL ρ cs with | some xs => some (.a xs) | none => none
  | a => match pw ρ a with
    | some x => some (.w x)
    | none => match a with | .lit v => some (.v v) | _ => none
def poutl (ρ : List Wd) : List AV → Option (List MO)
  | [] => some []
  | a :: l => match pout1 ρ a, poutl ρ l with | some x, some os => some (x :: os) | _, _ => none
def pout (ρ : List Wd) : AV → Option MO
  | .tup vs => match poutl ρ vs with | some os => some (.t os) | none => none
  | a => pout1 ρ a
mutual
/-- All unknown values are below n. -/
def inb (n : Nat) : AV → Bool
  | .lit _ => true
  | .opq i => Nat.blt i n
  | .ifc _ v => inb n v
  | .agg cs => inbL n cs
  | .tup vs => inbL n vs
  | _ => false
def inbL (n : Nat) : List AV → Bool
  | [] => true
  | v :: l => inb n v && inbL n l
end

/-- A run, as words. -/
def runM {b : Nat} (cx : Cx) (H : Nat) (tab : List (EntM b)) (fuel : Nat) (f : FuncId) (args : List AV) (ins : List Wd) : Option (MO × Nat × List Addr) :=
  match aCall cx fuel f args ⟨.nil, 0, lenL ins⟩ with
  | some (v, _, δ) => bif v.lt 0 && ltL 0 args && inbL (lenL ins) args then (match runE H tab δ ins 0 [] with
    | some (ρ, k, ps) => match pout ρ v with | some o => some (o, k, ps) | none => none
    | none => none) else none
  | none => none

/-! ### That it is so -/
def getW (ρ : List Wd) : Env := E0 fun i => wv (ρ.getD i (kW 0))
def ExtW (ρ : List Wd) (ρF : Nat → Value) : Prop := ∀ i x, ρ[i]? = some x → ρF i = wv x
theorem ExtW.of_append {ρ τ : List Wd} {ρF : Nat → Value} (h : ExtW (ρ ++ τ) ρF) : ExtW ρ ρF := fun i v hv => h i v (by
  have := (List.getElem?_eq_some_iff.1 hv).1
  rw [List.getElem?_append_left this]; exact hv)
mutual
theorem inb_conc {ρ : List Wd} {ρF : Nat → Value} (hF : ExtW ρ ρF) : ∀ (a : AV), inb (lenL ρ) a = true → a.conc (E0 ρF) = a.conc (getW ρ)
  | .lit v, _ => rfl
  | .opq i, h => by
    have hi : i < ρ.length := by have : Nat.blt i (lenL ρ) = true := h; rwa [blt_iff] at this
    show ρF i = wv (ρ.getD i _)
    rw [hF i ρ[i] (List.getElem?_eq_getElem hi)]
    simp [List.getD, List.getElem?_eq_getElem hi]
  | .ifc t v, h => by simp only [AV.conc]; rw [inb_conc hF v h]
  | .agg cs, h => by simp only [AV.conc]; rw [inbL_conc hF cs h]
  | .tup vs, h => by simp only [AV.conc]; rw [inbL_conc hF vs h]
  | .ptr _ _, h => by cases h
  | .slc _ _ _ _, h => by cases h
  | .row _ _, h => by cases h
  | .fn _ _ _, h => by cases h
theorem inbL_conc {ρ : List Wd} {ρF : Nat → Value} (hF : ExtW ρ ρF) : ∀ (l : List AV), inbL (lenL ρ) l = true → concL (E0 ρF) l = concL (getW ρ) l
  | [], _ => rfl
  | v :: l, h => by
    simp only [inbL, Bool.and_eq_true] at h
    simp only [concL]
    rw [inb_conc hF v h.1, inbL_conc hF l h.2]
end
theorem wf_kW {n : Int} (h : (Lit.int .i32 n).wf = true) : (kW n).v = n := by
  apply kW_v
  simp only [Lit.wf, IntKind.min, IntKind.max, IntKind.signed, IntKind.bits] at h
  simp at h
  unfold In32
  omega
theorem pw_ok {ρ : List Wd} {ρF : Nat → Value} (hF : ExtW ρ ρF) {a : AV} {x : Wd} (h : pw ρ a = some x) : a.conc (E0 ρF) = wv x := by
  unfold pw at h
  split at h
  · rename_i i
    rw [nth_eq] at h
    exact hF i x h
  · rename_i n
    cases hw : (Lit.int .i32 n).wf with
    | false => rw [hw] at h; cases h
    | true =>
      rw [hw] at h
      injection h with h
      subst h
      show Value.int .i32 n = .int .i32 (kW n).v
      rw [wf_kW hw]
  · cases h
theorem pwL_ok {ρ : List Wd} {ρF : Nat → Value} (hF : ExtW ρ ρF) : ∀ {l : List AV} {xs : List Wd}, pwL ρ l = some xs → concL (E0 ρF) l = wvs xs
  | [], xs, h => by unfold pwL at h; injection h with h; subst h; rfl
  | a :: l, xs, h => by
    unfold pwL at h
    cases h1 : pw ρ a with
    | none => rw [h1] at h; cases h
    | some x =>
      cases h2 : pwL ρ l with
      | none => rw [h1, h2] at h; cases h
      | some ys =>
        rw [h1, h2] at h
        injection h with h
        subst h
        show a.conc (E0 ρF) :: concL (E0 ρF) l = wv x :: wvs ys
        rw [pw_ok hF h1, pwL_ok hF h2]
theorem pm_ok {ρ : List Wd} {ρF : Nat → Value} (hF : ExtW ρ ρF) {fp : List Nat} {w : World} {v : Value} {a : EA} {m : MA} (h : pm ρ a = some m) (hv : ArgOk fp w v (a.conc (E0 ρF))) : v = m.val := by
  unfold pm at h
  split at h
  · rename_i t p
    cases ht : Nat.beq t 59 with
    | false => rw [ht] at h; cases h
    | true =>
      rw [ht] at h
      injection h with h
      subst h
      rw [beq_iff] at ht
      subst ht
      exact hv
  · rename_i p
    injection h with h
    subst h
    exact hv
  · rename_i cs hne
    cases hp : pwL ρ cs with
    | none => rw [hp] at h; cases h
    | some xs =>
      rw [hp] at h
      injection h with h
      subst h
      have e : v = .agg (concL (E0 ρF) cs).toArray := hv
      rw [e, pwL_ok hF hp]
      rfl
  · rename_i a' h1 h2 h3
    cases hp : pw ρ a' with
    | none => rw [hp] at h; cases h
    | some x =>
      rw [hp] at h
      injection h with h
      subst h
      have e : v = a'.conc (E0 ρF) := hv
      rw [e, pw_ok hF hp]
      rfl
  · cases h
theorem pms_ok {ρ : List Wd} {ρF : Nat → Value} (hF : ExtW ρ ρF) {fp : List Nat} {w : World} : ∀ {l : List EA} {us : List MA} {args : List Value}, pms ρ l = some us → ArgsOk fp w args (l.map (EA.conc (E0 ρF))) → args = us.map MA.val
  | [], us, args, h, ha => by
    unfold pms at h; injection h with h; subst h
    cases args with
    | nil => rfl
    | cons _ _ => exact ha.elim
  | a :: l, us, args, h, ha => by
    unfold pms at h
    cases h1 : pm ρ a with
    | none => rw [h1] at h; cases h
    | some x =>
      cases h2 : pms ρ l with
      | none => rw [h1, h2] at h; cases h
      | some ys =>
        rw [h1, h2] at h
        injection h with h
        subst h
        cases args with
        | nil => exact ha.elim
        | cons v vs =>
          obtain ⟨hv, hvs⟩ := ha
          rw [pm_ok hF h1 hv, pms_ok hF h2 hvs]
          rfl
theorem ptrs_mem {p : Addr} : ∀ {us : List MA}, (MA.mill p ∈ us ∨ MA.bare p ∈ us) → p ∈ ptrs us
  | [], h => by simp at h
  | .mill q :: l, h => by
    simp only [List.mem_cons, MA.mill.injEq, reduceCtorEq, false_or] at h
    simp only [ptrs, List.mem_cons]
    rcases h with (h | h) | h
    · exact .inl h
    · exact .inr (ptrs_mem (.inl h))
    · exact .inr (ptrs_mem (.inr h))
  | .bare q :: l, h => by
    simp only [List.mem_cons, MA.bare.injEq, reduceCtorEq, false_or] at h
    simp only [ptrs, List.mem_cons]
    rcases h with h | (h | h)
    · exact .inr (ptrs_mem (.inl h))
    · exact .inl h
    · exact .inr (ptrs_mem (.inr h))
  | .w _ :: l, h => by
    simp only [List.mem_cons, reduceCtorEq, false_or] at h
    exact ptrs_mem (us := l) h
  | .a _ :: l, h => by
    simp only [List.mem_cons, reduceCtorEq, false_or] at h
    exact ptrs_mem (us := l) h
theorem bw_ok : ∀ {l : List AV} {xs ρ ρ' : List Wd}, bw l xs ρ = some ρ' → ∃ τ, ρ' = ρ ++ τ ∧ ∀ ρF, ExtW ρ' ρF → concL (E0 ρF) l = wvs xs
  | [], [], ρ, ρ', h => by
    unfold bw at h; injection h with h; subst h
    exact ⟨[], by simp, fun _ _ => rfl⟩
  | .opq i :: l, x :: xs, ρ, ρ', h => by
    unfold bw at h
    simp only [fL_eq] at h
    cases hi : Nat.beq i (lenL ρ) with
    | false => rw [hi] at h; cases h
    | true =>
      rw [hi] at h
      rw [beq_iff] at hi
      obtain ⟨τ, rfl, h3⟩ := bw_ok (l := l) h
      refine ⟨x :: τ, by simp, fun ρF hF => ?_⟩
      have : ρF i = wv x := hF i x (by rw [hi]; unfold lenL; simp)
      show ρF i :: concL (E0 ρF) l = wv x :: wvs xs
      rw [h3 ρF hF, this]
  | .opq _ :: _, [], _, _, h => by cases h
  | [], _ :: _, _, _, h => by cases h
  | .lit _ :: _, _, _, _, h => by unfold bw at h; cases h
  | .ptr _ _ :: _, _, _, _, h => by unfold bw at h; cases h
  | .slc _ _ _ _ :: _, _, _, _, h => by unfold bw at h; cases h
  | .row _ _ :: _, _, _, _, h => by unfold bw at h; cases h
  | .fn _ _ _ :: _, _, _, _, h => by unfold bw at h; cases h
  | .ifc _ _ :: _, _, _, _, h => by unfold bw at h; cases h
  | .agg _ :: _, _, _, _, h => by unfold bw at h; cases h
  | .tup _ :: _, _, _, _, h => by unfold bw at h; cases h
theorem b1_ok {a : AV} {o : MO} {ρ ρ' : List Wd} (h : b1 a o ρ = some ρ') : ∃ τ, ρ' = ρ ++ τ ∧ ∀ ρF, ExtW ρ' ρF → a.conc (E0 ρF) = o.val := by
  unfold b1 at h
  split at h
  · rename_i i x
    obtain ⟨τ, h1, h2⟩ := bw_ok h
    refine ⟨τ, h1, fun ρF hF => ?_⟩
    have := h2 ρF hF
    injection this
  · rename_i cs xs
    obtain ⟨τ, h1, h2⟩ := bw_ok h
    refine ⟨τ, h1, fun ρF hF => ?_⟩
    show Value.agg (concL (E0 ρF) cs).toArray = .agg (wvs xs).toArray
    rw [h2 ρF hF]
  · cases h
theorem bl_ok : ∀ {l : List AV} {os : List MO} {ρ ρ' : List Wd}, bl l os ρ = some ρ' → ∃ τ, ρ' = ρ ++ τ ∧ ∀ ρF, ExtW ρ' ρF → concL (E0 ρF) l = MO.vals os
  | [], [], ρ, ρ', h => by
    unfold bl at h; injection h with h; subst h
    exact ⟨[], by simp, fun _ _ => rfl⟩
  | a :: l, o :: os, ρ, ρ', h => by
    unfold bl at h
    cases hb : b1 a o ρ with
    | none => rw [hb] at h; cases h
    | some ρ1 =>
      rw [hb] at h
      obtain ⟨τ1, rfl, c1⟩ := b1_ok hb
      obtain ⟨τ, rfl, c2⟩ := bl_ok (l := l) h
      refine ⟨τ1 ++ τ, by simp, fun ρF hF => ?_⟩
      show a.conc (E0 ρF) :: concL (E0 ρF) l = o.val :: MO.vals os
      rw [c1 ρF hF.of_append, c2 ρF hF]
  | [], _ :: _, _, _, h => by cases h
  | _ :: _, [], _, _, h => by cases h
theorem bo_ok {a : AV} {o : MO} {ρ ρ' : List Wd} (h : bo a o ρ = some ρ') : ∃ τ, ρ' = ρ ++ τ ∧ ∀ ρF, ExtW ρ' ρF → a.conc (E0 ρF) = o.val := by
  unfold bo at h
  split at h
  · rename_i l os
    obtain ⟨τ, h1, h2⟩ := bl_ok h
    refine ⟨τ, h1, fun ρF hF => ?_⟩
    show Value.tuple (concL (E0 ρF) l).toArray = .tuple (MO.vals os).toArray
    rw [h2 ρF hF]
  · exact b1_ok h
theorem findM_ok {b : Nat} : ∀ {l : List (EntM b)} {f : FuncId} {e : EntM b}, findM l f = some e → e.f = f
  | [], f, e, h => by cases h
  | x :: l, f, e, h => by
    unfold findM at h
    cases hb : Nat.beq x.f f with
    | true =>
      rw [hb] at h
      injection h with h
      subst h
      exact beq_iff.1 hb
    | false => rw [hb] at h; exact findM_ok h
theorem runE_ok {b H n : Nat} (hn : n ≤ H) {tab : List (EntM b)} : ∀ {δ : List Ev} {ρ ρ' : List Wd} {k k' : Nat} {ps ps' : List Addr}, runE H tab δ ρ k ps = some (ρ', k', ps') → (∀ p ∈ ps', p = ⟨b, 0, none⟩) →
    (∃ τ, ρ' = ρ ++ τ) ∧ (∀ p ∈ ps, p = ⟨b, 0, none⟩) ∧ ∀ ρF, ExtW ρ' ρF → RunL (MillM Tryz.prog b) ρF δ (n + k) (n + k')
  | [], ρ, ρ', k, k', ps, ps', h, hp => by
    unfold runE at h
    injection h with h; injection h with h1 h; injection h with h2 h3
    subst h1 h2 h3
    exact ⟨⟨[], by simp⟩, hp, fun _ _ => rfl⟩
  | .call f args out :: l, ρ, ρ', k, k', ps, ps', h, hp => by
    unfold runE at h
    cases ha : pms ρ args with
    | none => rw [ha] at h; cases h
    | some us =>
      cases hf : findM tab f with
      | none => rw [ha, hf] at h; cases h
      | some e =>
        rw [ha, hf] at h
        simp only [] at h
        cases hv : e.fn us with
        | none => rw [hv] at h; cases h
        | some q =>
          obtain ⟨o, d⟩ := q
          rw [hv] at h
          simp only [] at h
          cases ht : Nat.ble (H + k) e.top with
          | false => rw [ht] at h; cases h
          | true =>
            rw [ht] at h
            simp only [cond_true] at h
            rw [ble_iff] at ht
            cases hb : bo out o ρ with
            | none => rw [hb] at h; cases h
            | some ρ1 =>
              rw [hb] at h
              simp only [fL_eq, fN_eq] at h
              obtain ⟨τ1, rfl, c1⟩ := bo_ok hb
              obtain ⟨⟨τ, rfl⟩, hps, hrun⟩ := runE_ok hn (δ := l) h hp
              have hfe := findM_ok hf
              refine ⟨⟨τ1 ++ τ, by simp⟩, fun p hq => hps p (List.mem_append_right _ hq), fun ρF hF => ⟨n + (k + d), ?_, hrun ρF hF⟩⟩
              intro w xs hpl hxs
              have e1 := pms_ok hF.of_append.of_append ha hxs
              subst e1
              rw [c1 ρF hF.of_append]
              have := e.ok us o d hv (fun p hq => hps p (List.mem_append_left _ (ptrs_mem hq))) (n + k) w (by omega) hpl
              rw [hfe, Nat.add_assoc] at this
              exact this
  | .prim _ _ _ :: _, _, _, _, _, _, _, h, _ => by unfold runE at h; cases h
  | .loop _ _ _ _ _ :: _, _, _, _, _, _, _, h, _ => by unfold runE at h; cases h
theorem pout1_ok {ρ : List Wd} {ρF : Nat → Value} (hF : ExtW ρ ρF) {a : AV} {o : MO} (h : pout1 ρ a = some o) : a.conc (E0 ρF) = o.val := by
  unfold pout1 at h
  split at h
  · rename_i cs
    cases hc : pwL ρ cs with
    | none => rw [hc] at h; cases h
    | some xs =>
      rw [hc] at h
      injection h with h
      subst h
      show Value.agg (concL (E0 ρF) cs).toArray = .agg (wvs xs).toArray
      rw [pwL_ok hF hc]
  · cases hc : pw ρ a with
    | some x =>
      rw [hc] at h
      injection h with h
      subst h
      exact pw_ok hF hc
    | none =>
      rw [hc] at h
      simp only [] at h
      split at h
      · injection h with h
        subst h
        rfl
      · cases h
theorem poutl_ok {ρ : List Wd} {ρF : Nat → Value} (hF : ExtW ρ ρF) : ∀ {l : List AV} {os : List MO}, poutl ρ l = some os → concL (E0 ρF) l = MO.vals os
  | [], os, h => by unfold poutl at h; injection h with h; subst h; rfl
  | a :: l, os, h => by
    unfold poutl at h
    cases hc : pout1 ρ a with
    | none => rw [hc] at h; cases h
    | some x =>
      cases hl : poutl ρ l with
      | none => rw [hc, hl] at h; cases h
      | some qs =>
        rw [hc, hl] at h
        injection h with h
        subst h
        show a.conc (E0 ρF) :: concL (E0 ρF) l = x.val :: MO.vals qs
        rw [pout1_ok hF hc, poutl_ok hF hl]
theorem pout_ok {ρ : List Wd} {ρF : Nat → Value} (hF : ExtW ρ ρF) {a : AV} {o : MO} (h : pout ρ a = some o) : a.conc (E0 ρF) = o.val := by
  unfold pout at h
  split at h
  · rename_i vs
    cases hc : poutl ρ vs with
    | none => rw [hc] at h; cases h
    | some os =>
      rw [hc] at h
      injection h with h
      subst h
      show Value.tuple (concL (E0 ρF) vs).toArray = .tuple (MO.vals os).toArray
      rw [poutl_ok hF hc]
  · exact pout1_ok hF h
/-- A RUN ON THE MILL IS SO. -/
theorem mill_calls {b H : Nat} {cx : Cx} {tab : List (EntM b)} {fuel : Nat} {f : FuncId} {args : List AV} {ins : List Wd} {o : MO} {k : Nat} {ps : List Addr} (hP : cx.P = Tryz.prog) (hmix : cx.P.follows .mixedOrders = true) (hmt : MtOk cx)
    (h : runM cx H tab fuel f args ins = some (o, k, ps)) (hp : ∀ p ∈ ps, p = ⟨b, 0, none⟩) {n : Nat} (hn : n ≤ H) (w : World) (hpl : PlR w b (most n)) {vs : List Value} (hvs : concL (getW ins) args = vs) (hvn : ∀ i, cx.vw i = none := by intro i; rfl) :
    Calls Tryz.prog f vs.toArray w fun e w' => e = .returned o.val ∧ PlR w' b (most (n + k)) ∧ Turn w b w' := by
  obtain ⟨P, ev, lp, mt, br, vw⟩ := cx
  obtain rfl : P = Tryz.prog := hP
  unfold runM at h
  cases hc : aCall ⟨Tryz.prog, ev, lp, mt, br, vw⟩ fuel f args ⟨.nil, 0, lenL ins⟩ with
  | none => rw [hc] at h; cases h
  | some q =>
    obtain ⟨v, g', δ⟩ := q
    rw [hc] at h
    simp only [] at h
    cases hk : (v.lt 0 && ltL 0 args && inbL (lenL ins) args) with
    | false => rw [hk] at h; cases h
    | true =>
      rw [hk] at h
      simp only [cond_true] at h
      simp only [Bool.and_eq_true] at hk
      obtain ⟨⟨k1, k2⟩, k3⟩ := hk
      cases hr : runE H tab δ ins 0 [] with
      | none => rw [hr] at h; cases h
      | some q2 =>
        obtain ⟨ρ, k', ps'⟩ := q2
        rw [hr] at h
        simp only [] at h
        cases ho : pout ρ v with
        | none => rw [ho] at h; cases h
        | some o' =>
          rw [ho] at h
          injection h with h; injection h with h1 h; injection h with h2 h3
          subst h1 h2 h3
          obtain ⟨⟨τ, hτ⟩, _, hrun⟩ := runE_ok hn hr hp
          have hF : ExtW ρ (getW ρ).ρ := fun i x hx => by
            show wv (ρ.getD i _) = wv x
            simp [List.getD, hx]
          have hone : ∀ i, ((getW ρ).ρ i).oneCell' = true := fun i => rfl
          obtain ⟨_, hcall⟩ := aCall_ok (M := MillM Tryz.prog b) (ρv := (getW ρ).ρ) hmix hmt hone (VwOk.none hvn) fuel |>.2 f args ⟨.nil, 0, lenL ins⟩ v g' δ hc
          have hrep : Rep (MillM Tryz.prog b) (getW ρ) n (⟨.nil, 0, lenL ins⟩ : G).at 0 w := ⟨hpl, (fun b B hb => by have := at_lt hb; cases this), (fun b b' B B' hb => by have := at_lt hb; cases this), (fun b B hb => by have := at_lt hb; cases this), (fun b B hb => at_lt hb)⟩
          have hcl := hcall (getW ρ) n (n + k') w rfl hrep (fun u hu => by
            unfold AV.lt
            rw [blt_iff, pow_eq]
            refine lt_of_bits fun q hq => ?_
            have := ltL_bit k2 (mskL_mem hu hq)
            omega) (hrun _ hF)
          have hFi : ExtW ins (getW ρ).ρ := by subst hτ; exact hF.of_append
          have eargs : concL (getW ρ) args = vs := by
            rw [← hvs]
            exact inbL_conc hFi args k3
          rw [eargs] at hcl
          refine hcl.mono ?_
          rintro e w' ⟨E', rfl, hw⟩
          refine ⟨?_, hw.rep.mach, ?_, hw.grow⟩
          · rw [conc_zero (E := getW ρ) (E' := E') k1 hw.rho]
            have := pout_ok hF ho
            rw [show v.conc (getW ρ) = o'.val from this]
          · refine Fr.chg (hw.fr.more fun k _ hk => ?_)
            rcases hk with hk | ⟨b, B, hb, _⟩
            · exact hk
            · have := at_lt hb; cases this
end Go.Proofs.YtkfkoobdmnndcaaGreat.Xi
