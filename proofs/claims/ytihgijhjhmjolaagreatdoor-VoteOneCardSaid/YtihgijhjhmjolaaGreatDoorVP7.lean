/- Texts of this claim, side by side: MillM, MillE, Works8, Top0, Works9, PureW, Works12, Works13. -/
import Derived.Test.YtihgijhjhmjolaaGreatDoorXiV
import Derived.Test.YtihgijhjhmjolaaGreatDoorVP4
import Derived.Test.YtihgijhjhmjolaaGreatDoorVP6
import Derived.Test.YtihgijhjhmjolaaGreatDoorWorks7
/- Xi: runs on the mill of numbers: calls that are handed a mill answer words, and may add cells to the mill. -/
namespace Go.Proofs.YtihgijhjhmjolaaGreatDoor.Xi
open Go Go.RowKit
set_option linter.unusedVariables false
set_option linter.unusedSimpArgs false
theorem Fr.some_chg {w w' : World} {D : Nat → Prop} (h : Fr w w' D) : ∃ L : List Nat, Chg w w' L ∧ ∀ k ∈ L, D k := by
 classical
 refine ⟨(List.range w.heap.size).filter fun k => decide (D k), ⟨h.os, h.tape, h.output, h.size, fun k hk hn => h.block k hk fun hd => hn ?_⟩, fun k hk => ?_⟩
 · simp [List.mem_filter, hk, hd]
 · have := (List.mem_filter.1 hk).2
   simpa using this
def MillM (P : Program) (b : Nat) : Mach P where
 σ := Nat
 I := fun n w => PlR w b (most n)
 fp := fun _ w => dof w b
 lt := fun _ w h => h.lt
 keep := fun s w w' D h hf hD => by
  obtain ⟨L, hc, hL⟩ := hf.some_chg
  have hn : ∀ k ∈ dof w b, k ∉ L := fun k hk hm => hD k (hL k hm) hk
  exact ⟨h.chg hc hn, dof_chg h hc (hn b h.mem)⟩
 step := fun n f cas v n' => ∀ (w : World) (args : List Value), PlR w b (most n) → ArgsOk (dof w b) w args cas → Calls P f args.toArray w fun e w' => e = .returned v ∧ PlR w' b (most n') ∧ Turn w b w'
 beg := fun _ _ _ _ _ _ => False
 fin := fun _ _ _ => False
 step_ok := fun s w f args cas v s' hI ha hs => (hs w args hI ha).mono fun e w' ⟨he, hp, ht⟩ => ⟨he, hp, Fr.of_chg ht.chg, ht.sub⟩
 loop_ok := fun _ _ _ _ _ _ _ _ _ _ _ _ _ hb => hb.elim
inductive MA where
 | mill (p : Addr)
 | bare (p : Addr)
 | w (x : Wd)
 | a (l : List Wd)
inductive MO where
 | w (x : Wd)
 | a (l : List Wd)
 | t (l : List MO)
 | v (x : Value)
def wv (x : Wd) : Value := .int .i32 x.v
def wvs (l : List Wd) : List Value := l.map wv
def MA.val : MA → Value
 | .mill p => .agg #[.iface 152 (.pointer (some p))]
 | .bare p => .pointer (some p)
 | .w x => wv x
 | .a l => .agg (wvs l).toArray
mutual
def MO.val : MO → Value
 | .w x => wv x
 | .a l => .agg (wvs l).toArray
 | .t l => .tuple (MO.vals l).toArray
 | .v x => x
def MO.vals : List MO → List Value
 | [] => []
 | o :: l => o.val :: MO.vals l
end
structure EntM (b : Nat) where
 f : FuncId
 top : Nat
 fn : List MA → Option (MO × Nat)
 ok : ∀ us o d, fn us = some (o, d) → (∀ p, (MA.mill p ∈ us ∨ MA.bare p ∈ us) → p = ⟨b, 0, none⟩) → ∀ n w, n ≤ top → PlR w b (most n) →
  Calls Tryz.prog f (us.map MA.val).toArray w fun e w' => e = .returned o.val ∧ PlR w' b (most (n + d)) ∧ Turn w b w'
def pw (ρ : List Wd) : AV → Option Wd
 | .opq i => nth ρ i
 | .lit (.int .i32 n) => bif (Lit.int .i32 n).wf then some (kW n) else none
 | _ => none
def pwL (ρ : List Wd) : List AV → Option (List Wd)
 | [] => some []
 | a :: l => match pw ρ a, pwL ρ l with | some x, some xs => some (x :: xs) | _, _ => none
def pm (ρ : List Wd) : EA → Option MA
 | .v (.agg [.ifc t (.lit (.pointer (some p)))]) => bif Nat.beq t 152 then some (.mill p) else none
 | .v (.lit (.pointer (some p))) => some (.bare p)
 | .v (.agg cs) => match pwL ρ cs with | some xs => some (.a xs) | none => none
 | .v a => match pw ρ a with | some x => some (.w x) | none => none
 | .l _ => none
def pms (ρ : List Wd) : List EA → Option (List MA)
 | [] => some []
 | a :: l => match pm ρ a, pms ρ l with | some x, some xs => some (x :: xs) | _, _ => none
def ptrs : List MA → List Addr
 | [] => []
 | .mill p :: l => p :: ptrs l
 | .bare p :: l => p :: ptrs l
 | .w _ :: l => ptrs l
 | .a _ :: l => ptrs l
def bw : List AV → List Wd → List Wd → Option (List Wd)
 | [], [], ρ => some ρ
 | .opq i :: l, x :: xs, ρ => bif Nat.beq i (lenL ρ) then fL (ρ ++ [x]) fun ρ => bw l xs ρ else none
 | _, _, _ => none
def b1 : AV → MO → List Wd → Option (List Wd)
 | .opq i, .w x, ρ => bw [.opq i] [x] ρ
 | .agg cs, .a xs, ρ => bw cs xs ρ
 | _, _, _ => none
def bl : List AV → List MO → List Wd → Option (List Wd)
 | [], [], ρ => some ρ
 | a :: l, o :: os, ρ => match b1 a o ρ with | some ρ' => bl l os ρ' | none => none
 | _, _, _ => none
def bo : AV → MO → List Wd → Option (List Wd)
 | .tup l, .t os, ρ => bl l os ρ
 | a, o, ρ => b1 a o ρ
def findM {b : Nat} : List (EntM b) → FuncId → Option (EntM b)
 | [], _ => none
 | e :: l, f => bif Nat.beq e.f f then some e else findM l f
def runE {b : Nat} (H : Nat) (tab : List (EntM b)) : List Ev → List Wd → Nat → List Addr → Option (List Wd × Nat × List Addr)
 | [], ρ, k, ps => some (ρ, k, ps)
 | .call f args out :: l, ρ, k, ps => match pms ρ args, findM tab f with
  | some us, some e => match e.fn us with
   | some (o, d) => bif Nat.ble (H + k) e.top then (match bo out o ρ with
    | some ρ' => fL ρ' fun ρ' => fN (k + d) fun k => runE H tab l ρ' k (ptrs us ++ ps)
    | none => none) else none
   | none => none
  | _, _ => none
 | _ :: _, _, _, _ => none
def pout1 (ρ : List Wd) : AV → Option MO
 | .agg cs => match pwL ρ cs with | some xs => some (.a xs) | none => none
 | a => match pw ρ a with
  | some x => some (.w x)
  | none => match a with | .lit v => some (.v v) | _ => none
def poutl (ρ : List Wd) : List AV → Option (List MO)
 | [] => some []
 | a :: l => match pout1 ρ a, poutl ρ l with | some x, some os => some (x :: os) | _, _ => none
def pout (ρ : List Wd) : AV → Option MO
 | .tup vs => match poutl ρ vs with | some os => some (.t os) | none => none
 | a => pout1 ρ a
mutual
def inb (n : Nat) : AV → Bool
 | .lit _ => true
 | .opq i => Nat.blt i n
 | .ifc _ v => inb n v
 | .agg cs => inbL n cs
 | .tup vs => inbL n vs
 | _ => false
def inbL (n : Nat) : List AV → Bool
 | [] => true
 | v :: l => inb n v && inbL n l
end
def runM {b : Nat} (cx : Cx) (H : Nat) (tab : List (EntM b)) (fuel : Nat) (f : FuncId) (args : List AV) (ins : List Wd) : Option (MO × Nat × List Addr) :=
 match aCall cx fuel f args ⟨.nil, 0, lenL ins⟩ with
 | some (v, _, δ) => bif v.lt 0 && ltL 0 args && inbL (lenL ins) args then (match runE H tab δ ins 0 [] with
  | some (ρ, k, ps) => match pout ρ v with | some o => some (o, k, ps) | none => none
  | none => none) else none
 | none => none
def getW (ρ : List Wd) : Env := E0 fun i => wv (ρ.getD i (kW 0))
def ExtW (ρ : List Wd) (ρF : Nat → Value) : Prop := ∀ i x, ρ[i]? = some x → ρF i = wv x
theorem ExtW.of_append {ρ τ : List Wd} {ρF : Nat → Value} (h : ExtW (ρ ++ τ) ρF) : ExtW ρ ρF := fun i v hv => h i v (by
 have := (List.getElem?_eq_some_iff.1 hv).1
 rw [List.getElem?_append_left this]; exact hv)
mutual
theorem inb_conc {ρ : List Wd} {ρF : Nat → Value} (hF : ExtW ρ ρF) : ∀ (a : AV), inb (lenL ρ) a = true → a.conc (E0 ρF) = a.conc (getW ρ)
 | .lit v, _ => rfl
 | .opq i, h => by
  have hi : i < ρ.length := by have : Nat.blt i (lenL ρ) = true := h; rwa [blt_iff] at this
  show ρF i = wv (ρ.getD i _)
  rw [hF i ρ[i] (List.getElem?_eq_getElem hi)]
  simp [List.getD, List.getElem?_eq_getElem hi]
 | .ifc t v, h => by simp only [AV.conc]; rw [inb_conc hF v h]
 | .agg cs, h => by simp only [AV.conc]; rw [inbL_conc hF cs h]
 | .tup vs, h => by simp only [AV.conc]; rw [inbL_conc hF vs h]
 | .ptr _ _, h => by cases h
 | .slc _ _ _ _, h => by cases h
 | .row _ _, h => by cases h
 | .fn _ _ _, h => by cases h
theorem inbL_conc {ρ : List Wd} {ρF : Nat → Value} (hF : ExtW ρ ρF) : ∀ (l : List AV), inbL (lenL ρ) l = true → concL (E0 ρF) l = concL (getW ρ) l
 | [], _ => rfl
 | v :: l, h => by
  simp only [inbL, Bool.and_eq_true] at h
  simp only [concL]
  rw [inb_conc hF v h.1, inbL_conc hF l h.2]
end
theorem wf_kW {n : Int} (h : (Lit.int .i32 n).wf = true) : (kW n).v = n := by
 apply kW_v
 simp only [Lit.wf, IntKind.min, IntKind.max, IntKind.signed, IntKind.bits] at h
 simp at h
 unfold In32
 omega
theorem pw_ok {ρ : List Wd} {ρF : Nat → Value} (hF : ExtW ρ ρF) {a : AV} {x : Wd} (h : pw ρ a = some x) : a.conc (E0 ρF) = wv x := by
 unfold pw at h
 split at h
 · rename_i i
   rw [nth_eq] at h
   exact hF i x h
 · rename_i n
   cases hw : (Lit.int .i32 n).wf with
   | false => rw [hw] at h; cases h
   | true =>
    rw [hw] at h
    injection h with h
    subst h
    show Value.int .i32 n = .int .i32 (kW n).v
    rw [wf_kW hw]
 · cases h
theorem pwL_ok {ρ : List Wd} {ρF : Nat → Value} (hF : ExtW ρ ρF) : ∀ {l : List AV} {xs : List Wd}, pwL ρ l = some xs → concL (E0 ρF) l = wvs xs
 | [], xs, h => by unfold pwL at h; injection h with h; subst h; rfl
 | a :: l, xs, h => by
  unfold pwL at h
  cases h1 : pw ρ a with
  | none => rw [h1] at h; cases h
  | some x =>
   cases h2 : pwL ρ l with
   | none => rw [h1, h2] at h; cases h
   | some ys =>
    rw [h1, h2] at h
    injection h with h
    subst h
    show a.conc (E0 ρF) :: concL (E0 ρF) l = wv x :: wvs ys
    rw [pw_ok hF h1, pwL_ok hF h2]
theorem pm_ok {ρ : List Wd} {ρF : Nat → Value} (hF : ExtW ρ ρF) {fp : List Nat} {w : World} {v : Value} {a : EA} {m : MA} (h : pm ρ a = some m) (hv : ArgOk fp w v (a.conc (E0 ρF))) : v = m.val := by
 unfold pm at h
 split at h
 · rename_i t p
   cases ht : Nat.beq t 152 with
   | false => rw [ht] at h; cases h
   | true =>
    rw [ht] at h
    injection h with h
    subst h
    rw [beq_iff] at ht
    subst ht
    exact hv
 · rename_i p
   injection h with h
   subst h
   exact hv
 · rename_i cs hne
   cases hp : pwL ρ cs with
   | none => rw [hp] at h; cases h
   | some xs =>
    rw [hp] at h
    injection h with h
    subst h
    have e : v = .agg (concL (E0 ρF) cs).toArray := hv
    rw [e, pwL_ok hF hp]
    rfl
 · rename_i a' h1 h2 h3
   cases hp : pw ρ a' with
   | none => rw [hp] at h; cases h
   | some x =>
    rw [hp] at h
    injection h with h
    subst h
    have e : v = a'.conc (E0 ρF) := hv
    rw [e, pw_ok hF hp]
    rfl
 · cases h
theorem pms_ok {ρ : List Wd} {ρF : Nat → Value} (hF : ExtW ρ ρF) {fp : List Nat} {w : World} : ∀ {l : List EA} {us : List MA} {args : List Value}, pms ρ l = some us → ArgsOk fp w args (l.map (EA.conc (E0 ρF))) → args = us.map MA.val
 | [], us, args, h, ha => by
  unfold pms at h; injection h with h; subst h
  cases args with
  | nil => rfl
  | cons _ _ => exact ha.elim
 | a :: l, us, args, h, ha => by
  unfold pms at h
  cases h1 : pm ρ a with
  | none => rw [h1] at h; cases h
  | some x =>
   cases h2 : pms ρ l with
   | none => rw [h1, h2] at h; cases h
   | some ys =>
    rw [h1, h2] at h
    injection h with h
    subst h
    cases args with
    | nil => exact ha.elim
    | cons v vs =>
     obtain ⟨hv, hvs⟩ := ha
     rw [pm_ok hF h1 hv, pms_ok hF h2 hvs]
     rfl
theorem ptrs_mem {p : Addr} : ∀ {us : List MA}, (MA.mill p ∈ us ∨ MA.bare p ∈ us) → p ∈ ptrs us
 | [], h => by simp at h
 | .mill q :: l, h => by
  simp only [List.mem_cons, MA.mill.injEq, reduceCtorEq, false_or] at h
  simp only [ptrs, List.mem_cons]
  rcases h with (h | h) | h
  · exact .inl h
  · exact .inr (ptrs_mem (.inl h))
  · exact .inr (ptrs_mem (.inr h))
 | .bare q :: l, h => by
  simp only [List.mem_cons, MA.bare.injEq, reduceCtorEq, false_or] at h
  simp only [ptrs, List.mem_cons]
  rcases h with h | (h | h)
  · exact .inr (ptrs_mem (.inl h))
  · exact .inl h
  · exact .inr (ptrs_mem (.inr h))
 | .w _ :: l, h => by
  simp only [List.mem_cons, reduceCtorEq, false_or] at h
  exact ptrs_mem (us := l) h
 | .a _ :: l, h => by
  simp only [List.mem_cons, reduceCtorEq, false_or] at h
  exact ptrs_mem (us := l) h
theorem bw_ok : ∀ {l : List AV} {xs ρ ρ' : List Wd}, bw l xs ρ = some ρ' → ∃ τ, ρ' = ρ ++ τ ∧ ∀ ρF, ExtW ρ' ρF → concL (E0 ρF) l = wvs xs
 | [], [], ρ, ρ', h => by
  unfold bw at h; injection h with h; subst h
  exact ⟨[], by simp, fun _ _ => rfl⟩
 | .opq i :: l, x :: xs, ρ, ρ', h => by
  unfold bw at h
  simp only [fL_eq] at h
  cases hi : Nat.beq i (lenL ρ) with
  | false => rw [hi] at h; cases h
  | true =>
   rw [hi] at h
   rw [beq_iff] at hi
   obtain ⟨τ, rfl, h3⟩ := bw_ok (l := l) h
   refine ⟨x :: τ, by simp, fun ρF hF => ?_⟩
   have : ρF i = wv x := hF i x (by rw [hi]; unfold lenL; simp)
   show ρF i :: concL (E0 ρF) l = wv x :: wvs xs
   rw [h3 ρF hF, this]
 | .opq _ :: _, [], _, _, h => by cases h
 | [], _ :: _, _, _, h => by cases h
 | .lit _ :: _, _, _, _, h => by unfold bw at h; cases h
 | .ptr _ _ :: _, _, _, _, h => by unfold bw at h; cases h
 | .slc _ _ _ _ :: _, _, _, _, h => by unfold bw at h; cases h
 | .row _ _ :: _, _, _, _, h => by unfold bw at h; cases h
 | .fn _ _ _ :: _, _, _, _, h => by unfold bw at h; cases h
 | .ifc _ _ :: _, _, _, _, h => by unfold bw at h; cases h
 | .agg _ :: _, _, _, _, h => by unfold bw at h; cases h
 | .tup _ :: _, _, _, _, h => by unfold bw at h; cases h
theorem b1_ok {a : AV} {o : MO} {ρ ρ' : List Wd} (h : b1 a o ρ = some ρ') : ∃ τ, ρ' = ρ ++ τ ∧ ∀ ρF, ExtW ρ' ρF → a.conc (E0 ρF) = o.val := by
 unfold b1 at h
 split at h
 · rename_i i x
   obtain ⟨τ, h1, h2⟩ := bw_ok h
   refine ⟨τ, h1, fun ρF hF => ?_⟩
   have := h2 ρF hF
   injection this
 · rename_i cs xs
   obtain ⟨τ, h1, h2⟩ := bw_ok h
   refine ⟨τ, h1, fun ρF hF => ?_⟩
   show Value.agg (concL (E0 ρF) cs).toArray = .agg (wvs xs).toArray
   rw [h2 ρF hF]
 · cases h
theorem bl_ok : ∀ {l : List AV} {os : List MO} {ρ ρ' : List Wd}, bl l os ρ = some ρ' → ∃ τ, ρ' = ρ ++ τ ∧ ∀ ρF, ExtW ρ' ρF → concL (E0 ρF) l = MO.vals os
 | [], [], ρ, ρ', h => by
  unfold bl at h; injection h with h; subst h
  exact ⟨[], by simp, fun _ _ => rfl⟩
 | a :: l, o :: os, ρ, ρ', h => by
  unfold bl at h
  cases hb : b1 a o ρ with
  | none => rw [hb] at h; cases h
  | some ρ1 =>
   rw [hb] at h
   obtain ⟨τ1, rfl, c1⟩ := b1_ok hb
   obtain ⟨τ, rfl, c2⟩ := bl_ok (l := l) h
   refine ⟨τ1 ++ τ, by simp, fun ρF hF => ?_⟩
   show a.conc (E0 ρF) :: concL (E0 ρF) l = o.val :: MO.vals os
   rw [c1 ρF hF.of_append, c2 ρF hF]
 | [], _ :: _, _, _, h => by cases h
 | _ :: _, [], _, _, h => by cases h
theorem bo_ok {a : AV} {o : MO} {ρ ρ' : List Wd} (h : bo a o ρ = some ρ') : ∃ τ, ρ' = ρ ++ τ ∧ ∀ ρF, ExtW ρ' ρF → a.conc (E0 ρF) = o.val := by
 unfold bo at h
 split at h
 · rename_i l os
   obtain ⟨τ, h1, h2⟩ := bl_ok h
   refine ⟨τ, h1, fun ρF hF => ?_⟩
   show Value.tuple (concL (E0 ρF) l).toArray = .tuple (MO.vals os).toArray
   rw [h2 ρF hF]
 · exact b1_ok h
theorem findM_ok {b : Nat} : ∀ {l : List (EntM b)} {f : FuncId} {e : EntM b}, findM l f = some e → e.f = f
 | [], f, e, h => by cases h
 | x :: l, f, e, h => by
  unfold findM at h
  cases hb : Nat.beq x.f f with
  | true =>
   rw [hb] at h
   injection h with h
   subst h
   exact beq_iff.1 hb
  | false => rw [hb] at h; exact findM_ok h
theorem runE_ok {b H n : Nat} (hn : n ≤ H) {tab : List (EntM b)} : ∀ {δ : List Ev} {ρ ρ' : List Wd} {k k' : Nat} {ps ps' : List Addr}, runE H tab δ ρ k ps = some (ρ', k', ps') → (∀ p ∈ ps', p = ⟨b, 0, none⟩) →
 (∃ τ, ρ' = ρ ++ τ) ∧ (∀ p ∈ ps, p = ⟨b, 0, none⟩) ∧ ∀ ρF, ExtW ρ' ρF → RunL (MillM Tryz.prog b) ρF δ (n + k) (n + k')
 | [], ρ, ρ', k, k', ps, ps', h, hp => by
  unfold runE at h
  injection h with h; injection h with h1 h; injection h with h2 h3
  subst h1 h2 h3
  exact ⟨⟨[], by simp⟩, hp, fun _ _ => rfl⟩
 | .call f args out :: l, ρ, ρ', k, k', ps, ps', h, hp => by
  unfold runE at h
  cases ha : pms ρ args with
  | none => rw [ha] at h; cases h
  | some us =>
   cases hf : findM tab f with
   | none => rw [ha, hf] at h; cases h
   | some e =>
    rw [ha, hf] at h
    simp only [] at h
    cases hv : e.fn us with
    | none => rw [hv] at h; cases h
    | some q =>
     obtain ⟨o, d⟩ := q
     rw [hv] at h
     simp only [] at h
     cases ht : Nat.ble (H + k) e.top with
     | false => rw [ht] at h; cases h
     | true =>
      rw [ht] at h
      simp only [cond_true] at h
      rw [ble_iff] at ht
      cases hb : bo out o ρ with
      | none => rw [hb] at h; cases h
      | some ρ1 =>
       rw [hb] at h
       simp only [fL_eq, fN_eq] at h
       obtain ⟨τ1, rfl, c1⟩ := bo_ok hb
       obtain ⟨⟨τ, rfl⟩, hps, hrun⟩ := runE_ok hn (δ := l) h hp
       have hfe := findM_ok hf
       refine ⟨⟨τ1 ++ τ, by simp⟩, fun p hq => hps p (List.mem_append_right _ hq), fun ρF hF => ⟨n + (k + d), ?_, hrun ρF hF⟩⟩
       intro w xs hpl hxs
       have e1 := pms_ok hF.of_append.of_append ha hxs
       subst e1
       rw [c1 ρF hF.of_append]
       have := e.ok us o d hv (fun p hq => hps p (List.mem_append_left _ (ptrs_mem hq))) (n + k) w (by omega) hpl
       rw [hfe, Nat.add_assoc] at this
       exact this
 | .prim _ _ _ :: _, _, _, _, _, _, _, h, _ => by unfold runE at h; cases h
 | .loop _ _ _ _ _ :: _, _, _, _, _, _, _, h, _ => by unfold runE at h; cases h
theorem pout1_ok {ρ : List Wd} {ρF : Nat → Value} (hF : ExtW ρ ρF) {a : AV} {o : MO} (h : pout1 ρ a = some o) : a.conc (E0 ρF) = o.val := by
 unfold pout1 at h
 split at h
 · rename_i cs
   cases hc : pwL ρ cs with
   | none => rw [hc] at h; cases h
   | some xs =>
    rw [hc] at h
    injection h with h
    subst h
    show Value.agg (concL (E0 ρF) cs).toArray = .agg (wvs xs).toArray
    rw [pwL_ok hF hc]
 · cases hc : pw ρ a with
   | some x =>
    rw [hc] at h
    injection h with h
    subst h
    exact pw_ok hF hc
   | none =>
    rw [hc] at h
    simp only [] at h
    split at h
    · injection h with h
      subst h
      rfl
    · cases h
theorem poutl_ok {ρ : List Wd} {ρF : Nat → Value} (hF : ExtW ρ ρF) : ∀ {l : List AV} {os : List MO}, poutl ρ l = some os → concL (E0 ρF) l = MO.vals os
 | [], os, h => by unfold poutl at h; injection h with h; subst h; rfl
 | a :: l, os, h => by
  unfold poutl at h
  cases hc : pout1 ρ a with
  | none => rw [hc] at h; cases h
  | some x =>
   cases hl : poutl ρ l with
   | none => rw [hc, hl] at h; cases h
   | some qs =>
    rw [hc, hl] at h
    injection h with h
    subst h
    show a.conc (E0 ρF) :: concL (E0 ρF) l = x.val :: MO.vals qs
    rw [pout1_ok hF hc, poutl_ok hF hl]
theorem pout_ok {ρ : List Wd} {ρF : Nat → Value} (hF : ExtW ρ ρF) {a : AV} {o : MO} (h : pout ρ a = some o) : a.conc (E0 ρF) = o.val := by
 unfold pout at h
 split at h
 · rename_i vs
   cases hc : poutl ρ vs with
   | none => rw [hc] at h; cases h
   | some os =>
    rw [hc] at h
    injection h with h
    subst h
    show Value.tuple (concL (E0 ρF) vs).toArray = .tuple (MO.vals os).toArray
    rw [poutl_ok hF hc]
 · exact pout1_ok hF h
theorem mill_calls {b H : Nat} {cx : Cx} {tab : List (EntM b)} {fuel : Nat} {f : FuncId} {args : List AV} {ins : List Wd} {o : MO} {k : Nat} {ps : List Addr} (hP : cx.P = Tryz.prog) (hmix : cx.P.follows .mixedOrders = true) (hmt : MtOk cx)
 (h : runM cx H tab fuel f args ins = some (o, k, ps)) (hp : ∀ p ∈ ps, p = ⟨b, 0, none⟩) {n : Nat} (hn : n ≤ H) (w : World) (hpl : PlR w b (most n)) {vs : List Value} (hvs : concL (getW ins) args = vs) (hvn : ∀ i, cx.vw i = none := by intro i; rfl) :
 Calls Tryz.prog f vs.toArray w fun e w' => e = .returned o.val ∧ PlR w' b (most (n + k)) ∧ Turn w b w' := by
 obtain ⟨P, ev, lp, mt, br, vw⟩ := cx
 obtain rfl : P = Tryz.prog := hP
 unfold runM at h
 cases hc : aCall ⟨Tryz.prog, ev, lp, mt, br, vw⟩ fuel f args ⟨.nil, 0, lenL ins⟩ with
 | none => rw [hc] at h; cases h
 | some q =>
  obtain ⟨v, g', δ⟩ := q
  rw [hc] at h
  simp only [] at h
  cases hk : (v.lt 0 && ltL 0 args && inbL (lenL ins) args) with
  | false => rw [hk] at h; cases h
  | true =>
   rw [hk] at h
   simp only [cond_true] at h
   simp only [Bool.and_eq_true] at hk
   obtain ⟨⟨k1, k2⟩, k3⟩ := hk
   cases hr : runE H tab δ ins 0 [] with
   | none => rw [hr] at h; cases h
   | some q2 =>
    obtain ⟨ρ, k', ps'⟩ := q2
    rw [hr] at h
    simp only [] at h
    cases ho : pout ρ v with
    | none => rw [ho] at h; cases h
    | some o' =>
     rw [ho] at h
     injection h with h; injection h with h1 h; injection h with h2 h3
     subst h1 h2 h3
     obtain ⟨⟨τ, hτ⟩, _, hrun⟩ := runE_ok hn hr hp
     have hF : ExtW ρ (getW ρ).ρ := fun i x hx => by
      show wv (ρ.getD i _) = wv x
      simp [List.getD, hx]
     have hone : ∀ i, ((getW ρ).ρ i).oneCell' = true := fun i => rfl
     obtain ⟨_, hcall⟩ := aCall_ok (M := MillM Tryz.prog b) (ρv := (getW ρ).ρ) hmix hmt hone (VwOk.none hvn) fuel |>.2 f args ⟨.nil, 0, lenL ins⟩ v g' δ hc
     have hrep : Rep (MillM Tryz.prog b) (getW ρ) n (⟨.nil, 0, lenL ins⟩ : G).at 0 w := ⟨hpl, (fun b B hb => by have := at_lt hb; cases this), (fun b b' B B' hb => by have := at_lt hb; cases this), (fun b B hb => by have := at_lt hb; cases this), (fun b B hb => at_lt hb)⟩
     have hcl := hcall (getW ρ) n (n + k') w rfl hrep (fun u hu => by
      unfold AV.lt
      rw [blt_iff, pow_eq]
      refine lt_of_bits fun q hq => ?_
      have := ltL_bit k2 (mskL_mem hu hq)
      omega) (hrun _ hF)
     have hFi : ExtW ins (getW ρ).ρ := by subst hτ; exact hF.of_append
     have eargs : concL (getW ρ) args = vs := by
      rw [← hvs]
      exact inbL_conc hFi args k3
     rw [eargs] at hcl
     refine hcl.mono ?_
     rintro e w' ⟨E', rfl, hw⟩
     refine ⟨?_, hw.rep.mach, ?_, hw.grow⟩
     · rw [conc_zero (E := getW ρ) (E' := E') k1 hw.rho]
       have := pout_ok hF ho
       rw [show v.conc (getW ρ) = o'.val from this]
     · refine Fr.chg (hw.fr.more fun k _ hk => ?_)
       rcases hk with hk | ⟨b, B, hb, _⟩
       · exact hk
       · have := at_lt hb; cases this
end Go.Proofs.YtihgijhjhmjolaaGreatDoor.Xi

/- Xi: the mill's calls, as entries of runs on the mill. -/
namespace Go.Proofs.YtihgijhjhmjolaaGreatDoor.Xm
open Go Go.RowKit Go.Proofs.YtihgijhjhmjolaaGreatDoor.Xi
set_option linter.unusedVariables false
set_option linter.unusedSimpArgs false
def entPure (b : Nat) (f : FuncId) (R : List MA → Option MO) (h : ∀ us o, R us = some o → ∀ w : World, Calls Tryz.prog f (us.map MA.val).toArray w fun e w' => e = .returned o.val ∧ Chg w w' []) : EntM b where
 f := f
 top := 1000000
 fn := fun us => match R us with | some o => some (o, 0) | none => none
 ok := fun us o d hv hp n w hn hpl => by
  cases hR : R us with
  | none => rw [hR] at hv; cases hv
  | some o' =>
   rw [hR] at hv
   injection hv with hv; injection hv with h1 h2
   subst h1 h2
   exact (h us o' hR w).mono fun e w' ⟨he, hc⟩ => ⟨he, hpl.chg hc (by simp), Turn.call hpl hc⟩
def entCell (b : Nat) (f : FuncId) (top k : Nat) (R : List MA → Option MO) (h : ∀ us o, R us = some o → (∀ p, (MA.mill p ∈ us ∨ MA.bare p ∈ us) → p = ⟨b, 0, none⟩) → ∀ n w, n ≤ top → PlR w b (most n) → Calls Tryz.prog f (us.map MA.val).toArray w fun e w' => e = .returned o.val ∧ PlR w' b (most (n + k)) ∧ Turn w b w') : EntM b where
 f := f
 top := top
 fn := fun us => match R us with | some o => some (o, k) | none => none
 ok := fun us o d hv hp n w hn hpl => by
  cases hR : R us with
  | none => rw [hR] at hv; cases hv
  | some o' =>
   rw [hR] at hv
   injection hv with hv; injection hv with h1 h2
   subst h1 h2
   exact h us o' hR hp n w hn hpl
def R1 (F : Wd → MO) : List MA → Option MO
 | [.mill _, .w a] => some (F a)
 | _ => none
def R2 (F : Wd → Wd → MO) : List MA → Option MO
 | [.mill _, .w a, .w c] => some (F a c)
 | _ => none
def R3 (F : Wd → Wd → Wd → MO) : List MA → Option MO
 | [.mill _, .w a, .w c, .w d] => some (F a c d)
 | _ => none
def RB1 (F : Wd → MO) : List MA → Option MO
 | [.bare _, .w a] => some (F a)
 | _ => none
def RA3 (F : Wd → Wd → Wd → MO) : List MA → Option MO
 | [.mill _, .a [a, c, d]] => some (F a c d)
 | _ => none
def RA4 (F : Wd → Wd → Wd → Wd → MO) : List MA → Option MO
 | [.mill _, .a [a, c, d, e]] => some (F a c d e)
 | _ => none
def RA43 (F : Wd → Wd → Wd → Wd → Wd → Wd → Wd → MO) : List MA → Option MO
 | [.mill _, .a [a, c, d, e], .a [x, y, z]] => some (F a c d e x y z)
 | _ => none
def RA44 (F : Wd → Wd → Wd → Wd → Wd → Wd → Wd → Wd → MO) : List MA → Option MO
 | [.mill _, .a [a, c, d, e], .a [x, y, z, t]] => some (F a c d e x y z t)
 | _ => none
def RAE (F : Wd → Wd → Wd → Wd → Wd → Wd → Wd → Wd → Wd → MO) : List MA → Option MO
 | [.mill _, .a [a, c, d, e], .w u, .w v, .a [x, y, z]] => some (F a c d e u v x y z)
 | _ => none
def pure2 (b : Nat) (f : FuncId) (F : Wd → Wd → Wd) (h : ∀ (p : Addr) (a c : Wd) (w : World), Calls Tryz.prog f #[.agg #[.iface 152 (.pointer (some p))], .int .i32 a.v, .int .i32 c.v] w fun e w' => e = .returned (.int .i32 (F a c).v) ∧ Chg w w' []) : EntM b :=
 entPure b f (R2 fun a c => .w (F a c)) fun us o hv w => by
  unfold R2 at hv
  split at hv
  · injection hv with hv
    subst hv
    exact h _ _ _ w
  · cases hv
def pure1 (b : Nat) (f : FuncId) (F : Wd → Wd) (h : ∀ (p : Addr) (a : Wd) (w : World), Calls Tryz.prog f #[.agg #[.iface 152 (.pointer (some p))], .int .i32 a.v] w fun e w' => e = .returned (.int .i32 (F a).v) ∧ Chg w w' []) : EntM b :=
 entPure b f (R1 fun a => .w (F a)) fun us o hv w => by
  unfold R1 at hv
  split at hv
  · injection hv with hv
    subst hv
    exact h _ _ w
  · cases hv
def pure3 (b : Nat) (f : FuncId) (F : Wd → Wd → Wd → Wd) (h : ∀ (p : Addr) (a c d : Wd) (w : World), Calls Tryz.prog f #[.agg #[.iface 152 (.pointer (some p))], .int .i32 a.v, .int .i32 c.v, .int .i32 d.v] w fun e w' => e = .returned (.int .i32 (F a c d).v) ∧ Chg w w' []) : EntM b :=
 entPure b f (R3 fun a c d => .w (F a c d)) fun us o hv w => by
  unfold R3 at hv
  split at hv
  · injection hv with hv
    subst hv
    exact h _ _ _ _ w
  · cases hv
def entConst (b : Nat) : EntM b :=
 entPure b 200 (RB1 fun a => .w a) fun us o hv w => by
  unfold RB1 at hv
  split at hv
  · rename_i p a
    injection hv with hv
    subst hv
    have := w_const p a.v w a.ok
    rw [kW_self] at this
    exact this
  · cases hv
def entUp (b : Nat) : EntM b := pure2 b 95 (fun a c => upW a c.v) fun p a c w => w_up p a c.v w c.ok
def entDown (b : Nat) : EntM b := pure2 b 99 (fun a c => downW a c.v) fun p a c w => w_down p a c.v w c.ok
def entSel (b : Nat) : EntM b := pure3 b 169 selW fun p a c d w => w_sel p a c d w
def entFlip (b : Nat) : EntM b := pure2 b 168 flipW fun p a c w => w_flip p a c w
def opsM (b : Nat) : List (EntM b) := [
 pure2 b 144 addW (w_add · · · ·),
 pure2 b 123 subW (w_sub · · · ·),
 pure2 b 92 addsW (w_adds · · · ·),
 pure2 b 98 subsW (w_subs · · · ·),
 pure2 b 93 andW (w_and · · · ·),
 pure2 b 142 orW (w_or · · · ·),
 pure2 b 179 xorW (w_xor · · · ·),
 pure2 b 180 bicW (w_bic · · · ·),
 pure2 b 155 shlW (w_shl · · · ·),
 pure2 b 164 shrW (w_shr · · · ·),
 pure2 b 159 sarW (w_sar · · · ·),
 pure2 b 124 sltW (w_slt · · · ·),
 pure2 b 143 sltuW (w_sltu · · · ·),
 pure2 b 145 mulW (w_mul · · · ·),
 pure2 b 117 mulqW (w_mulq · · · ·),
 pure2 b 157 minW (w_min · · · ·),
 pure2 b 158 maxW (w_max · · · ·),
 pure1 b 162 clzW (w_clz · · ·),
 pure1 b 154 negW (w_neg · · ·),
 pure1 b 125 absW (w_abs · · ·),
 pure1 b 167 signW (w_sign · · ·),
 entConst b,
 entUp b,
 entDown b,
 entSel b,
 entFlip b]
def opsS : List (FuncId × Sh) := [(144, .one), (123, .one), (92, .one), (98, .one), (93, .one), (142, .one), (179, .one), (180, .one), (155, .one), (164, .one), (159, .one), (124, .one), (143, .one), (145, .one), (117, .one), (157, .one), (158, .one), (162, .one), (154, .one), (125, .one), (167, .one), (95, .one), (99, .one), (169, .one), (168, .one), (200, .one)]
def mtC (n : String) : Option FuncId := match n with | "Const" => some 200 | _ => none
theorem mtC_ok {n : String} {g : FuncId} (h : mtC n = some g) (a : Addr) (w : World) : (method (Tryz.prog.types.size + Made.depth) 152 (.pointer (some a)) n).run Tryz.prog w = .ok (g, .pointer (some a)) w := by
 unfold mtC at h
 split at h
 · have h := Option.some.inj h
   subst h
   have e : Tryz.prog.types.size + Made.depth = 372 := by kernel_rfl
   rw [e]
   exact meth_const a w
 · cases h
noncomputable def cxM (shs : List (FuncId × Sh)) : Cx where
 P := Tryz.prog
 ev := fun f _ nv => match shOf shs f with
  | some s => some (s.mk nv)
  | none => match shOf opsS f with
   | some s => some (s.mk nv)
   | none => none
 lp := fun _ => false
 mt := fun t n => bif Nat.beq t 152 then mtC n else none
 br := fun _ => none
theorem cxM_mt (shs : List (FuncId × Sh)) : MtOk (cxM shs) := fun t n g h a w => by
 have h' : (bif Nat.beq t 152 then mtC n else none) = some g := h
 cases ht : Nat.beq t 152 with
 | false => rw [ht] at h'; cases h'
 | true =>
  rw [ht] at h'
  rw [beq_iff] at ht
  subst ht
  exact mtC_ok h' a w
def mil (b : Nat) : AV := .agg [.ifc 152 (.lit (.pointer (some ⟨b, 0, none⟩)))]
def pp (b m : Nat) : List Addr := List.replicate m ⟨b, 0, none⟩
theorem pp_ok (b m : Nat) : ∀ p ∈ pp b m, p = ⟨b, 0, none⟩ := fun p hp => (List.mem_replicate.1 hp).2
theorem cxM_calls {b H m k fuel : Nat} {shs : List (FuncId × Sh)} {tab : List (EntM b)} {f : FuncId} {args : List AV} {ins : List Wd} {o : MO}
 (h : runM (cxM shs) H (tab ++ opsM b) fuel f args ins = some (o, k, pp b m)) {n : Nat} (hn : n ≤ H) (w : World) (hpl : PlR w b (most n)) {vs : List Value} (hvs : concL (getW ins) args = vs) :
 Calls Tryz.prog f vs.toArray w fun e w' => e = .returned o.val ∧ PlR w' b (most (n + k)) ∧ Turn w b w' :=
 mill_calls rfl (by kernel_rfl) (cxM_mt shs) h (pp_ok b m) hn w hpl hvs
end Go.Proofs.YtihgijhjhmjolaaGreatDoor.Xm

/- Root as others use it, Sqrt, Pointing, Even of package works at numbers: runs on the mill. -/
namespace Go.Proofs.YtihgijhjhmjolaaGreatDoor
open Go.RowKit Go.Deep
set_option linter.unusedVariables false
theorem wroot_calls (b : Nat) (x : Wd) (n : Nat) (w : World) (hn : n ≤ 900) (h : PlR w b (most n)) :
 Calls Tryz.prog 146 #[.agg #[.iface 152 (.pointer (some ⟨b, 0, none⟩))], .int .i32 x.v] w fun e w' => e = .returned (.tuple #[.int .i32 (rootW x).1.v, .int .i32 (rootW x).2.v]) ∧ PlR w' b (most (n + 1)) ∧ Turn w b w' := by
 obtain ⟨cs, ts, vc, vt, ⟨h1, h2⟩, hP⟩ := h
 refine (root_in b x cs ts w (by omega) ⟨cs, ts, vc, vt, ⟨rfl, rfl⟩, hP⟩).mono ?_
 rintro e w' ⟨he, hp, ht⟩
 exact ⟨he, hp.mono (fun c t ⟨h3, h4⟩ => by subst h3 h4; exact ⟨by simp; omega, by omega⟩), ht⟩
namespace Xm
open Xi
def entRoot (b : Nat) : EntM b := entCell b 146 900 1 (R1 fun x => .t [.w (rootW x).1, .w (rootW x).2]) fun us o hv hp n w hn hpl => by
 unfold R1 at hv
 split at hv
 · rename_i p x
   injection hv with hv
   subst hv
   obtain rfl := hp p (.inl (by simp))
   exact wroot_calls b x n w hn hpl
 · cases hv
def rootS : List (FuncId × Sh) := [(146, .two .one .one)]
set_option maxRecDepth 100000 in
theorem sqrt_run (b : Nat) (x : Wd) : runM (cxM rootS) 900 ([entRoot b] ++ opsM b) 200 121 [mil b, .opq 0] [x] = some (.w (sqrtW x), 1, pp b 3) := by kernel_rfl
set_option maxRecDepth 100000 in
theorem point_run (b : Nat) (x0 x1 x2 : Wd) : runM (cxM rootS) 900 ([entRoot b] ++ opsM b) 200 90 [mil b, .agg (opqs 3 0)] [x0, x1, x2] = some (.a [(pointW x0 x1 x2).a, (pointW x0 x1 x2).b, (pointW x0 x1 x2).c], 1, pp b 15) := by kernel_rfl
set_option maxRecDepth 100000 in
theorem even_run (b : Nat) (x0 x1 x2 x3 : Wd) : runM (cxM rootS) 900 ([entRoot b] ++ opsM b) 200 94 [mil b, .agg (opqs 4 0)] [x0, x1, x2, x3] = some (.a [(evenW x0 x1 x2 x3).a, (evenW x0 x1 x2 x3).b, (evenW x0 x1 x2 x3).c, (evenW x0 x1 x2 x3).d], 1, pp b 18) := by kernel_rfl
end Xm
theorem wsqrt_calls (b : Nat) (x : Wd) (n : Nat) (w : World) (hn : n ≤ 900) (h : PlR w b (most n)) :
 Calls Tryz.prog 121 #[.agg #[.iface 152 (.pointer (some ⟨b, 0, none⟩))], .int .i32 x.v] w fun e w' => e = .returned (.int .i32 (sqrtW x).v) ∧ PlR w' b (most (n + 1)) ∧ Turn w b w' := Xm.cxM_calls (Xm.sqrt_run b x) hn w h rfl
theorem wpoint_calls (b : Nat) (x0 x1 x2 : Wd) (n : Nat) (w : World) (hn : n ≤ 900) (hpl : PlR w b (most n)) :
 Calls Tryz.prog 90 #[.agg #[.iface 152 (.pointer (some ⟨b, 0, none⟩))], .agg #[.int .i32 x0.v, .int .i32 x1.v, .int .i32 x2.v]] w fun e w' => e = .returned (.agg #[.int .i32 (pointW x0 x1 x2).a.v, .int .i32 (pointW x0 x1 x2).b.v, .int .i32 (pointW x0 x1 x2).c.v]) ∧ PlR w' b (most (n + 1)) ∧ Turn w b w' := Xm.cxM_calls (Xm.point_run b x0 x1 x2) hn w hpl rfl
theorem weven_calls (b : Nat) (x0 x1 x2 x3 : Wd) (n : Nat) (w : World) (hn : n ≤ 900) (hpl : PlR w b (most n)) :
 Calls Tryz.prog 94 #[.agg #[.iface 152 (.pointer (some ⟨b, 0, none⟩))], .agg #[.int .i32 x0.v, .int .i32 x1.v, .int .i32 x2.v, .int .i32 x3.v]] w fun e w' => e = .returned (.agg #[.int .i32 (evenW x0 x1 x2 x3).a.v, .int .i32 (evenW x0 x1 x2 x3).b.v, .int .i32 (evenW x0 x1 x2 x3).c.v, .int .i32 (evenW x0 x1 x2 x3).d.v]) ∧ PlR w' b (most (n + 1)) ∧ Turn w b w' := Xm.cxM_calls (Xm.even_run b x0 x1 x2 x3) hn w hpl rfl
namespace Xm
open Xi
def entSqrt (b : Nat) : EntM b := entCell b 121 900 1 (R1 fun x => .w (sqrtW x)) fun us o hv hp n w hn hpl => by
 unfold R1 at hv
 split at hv
 · rename_i p x
   injection hv with hv
   subst hv
   obtain rfl := hp p (.inl (by simp))
   exact wsqrt_calls b x n w hn hpl
 · cases hv
def entPoint (b : Nat) : EntM b := entCell b 90 900 1 (RA3 fun x0 x1 x2 => .a [(pointW x0 x1 x2).a, (pointW x0 x1 x2).b, (pointW x0 x1 x2).c]) fun us o hv hp n w hn hpl => by
 unfold RA3 at hv
 split at hv
 · rename_i p x0 x1 x2
   injection hv with hv
   subst hv
   obtain rfl := hp p (.inl (by simp))
   exact wpoint_calls b x0 x1 x2 n w hn hpl
 · cases hv
def entEven (b : Nat) : EntM b := entCell b 94 900 1 (RA4 fun x0 x1 x2 x3 => .a [(evenW x0 x1 x2 x3).a, (evenW x0 x1 x2 x3).b, (evenW x0 x1 x2 x3).c, (evenW x0 x1 x2 x3).d]) fun us o hv hp n w hn hpl => by
 unfold RA4 at hv
 split at hv
 · rename_i p x0 x1 x2 x3
   injection hv with hv
   subst hv
   obtain rfl := hp p (.inl (by simp))
   exact weven_calls b x0 x1 x2 x3 n w hn hpl
 · cases hv
end Xm
end Go.Proofs.YtihgijhjhmjolaaGreatDoor

/- Of packages that make a new mill. -/
namespace Go.Proofs.YtihgijhjhmjolaaGreatDoor
open Go.RowKit Go.Deep
set_option linter.unusedVariables false
theorem Pl.most {w : World} {b : Nat} (hP : Pl w b [] [] (.slice none 0 0) (.slice none 0 0)) : PlR w b (most 0) := ⟨_, _, _, _, ⟨by simp, by simp⟩, hP⟩
theorem Turn.new {w0 w w' : World} {b : Nat} {D : List Nat} (hc : Chg w0 w D) (hP : Pl w b [] [] (.slice none 0 0) (.slice none 0 0)) (hb : w0.heap.size ≤ b) (ht : Turn w b w') : Chg w0 w' D :=
 hc.trans ht.chg (fun k hk => by
  rw [hP.dof] at hk
  rcases mem_own.1 hk with rfl | h | h
  · exact .inr hb
  · cases h
  · cases h)
def gateB (n : Wd) (low high : Int) : Bool := (withinW n (kW low) (kW high)).v != 0
end Go.Proofs.YtihgijhjhmjolaaGreatDoor

/- Rate, Times, Pull, errors, Field of package works at numbers: runs on the mill. -/
namespace Go.Proofs.YtihgijhjhmjolaaGreatDoor
open Go.RowKit Go.Deep
set_option linter.unusedVariables false
namespace Xm
open Xi
set_option maxRecDepth 100000 in
theorem rate_run (b : Nat) (q0 q1 q2 q3 x y z : Wd) : runM (cxM []) 1000000 ([] ++ opsM b) 200 96 [mil b, .agg (opqs 4 0), .agg (opqs 3 4)] [q0, q1, q2, q3, x, y, z] = some (.a [(rateW q0 q1 q2 q3 x y z).a, (rateW q0 q1 q2 q3 x y z).b, (rateW q0 q1 q2 q3 x y z).c, (rateW q0 q1 q2 q3 x y z).d], 0, pp b 22) := by kernel_rfl
def entRate (b : Nat) : EntM b := entCell b 96 1000000 0 (RA43 fun q0 q1 q2 q3 x y z => .a [(rateW q0 q1 q2 q3 x y z).a, (rateW q0 q1 q2 q3 x y z).b, (rateW q0 q1 q2 q3 x y z).c, (rateW q0 q1 q2 q3 x y z).d]) fun us o hv hp n w hn hpl => by
 unfold RA43 at hv
 split at hv
 · rename_i p q0 q1 q2 q3 x y z
   injection hv with hv
   subst hv
   obtain rfl := hp p (.inl (by simp))
   exact cxM_calls (rate_run b q0 q1 q2 q3 x y z) hn w hpl rfl
 · cases hv
set_option maxRecDepth 100000 in
theorem times_run (b : Nat) (q0 q1 q2 q3 x y z t : Wd) : runM (cxM []) 1000000 ([] ++ opsM b) 200 148 [mil b, .agg (opqs 4 0), .agg (opqs 4 4)] [q0, q1, q2, q3, x, y, z, t] = some (.a [(timesW q0 q1 q2 q3 x y z t).a, (timesW q0 q1 q2 q3 x y z t).b, (timesW q0 q1 q2 q3 x y z t).c, (timesW q0 q1 q2 q3 x y z t).d], 0, pp b 28) := by kernel_rfl
def entTimes (b : Nat) : EntM b := entCell b 148 1000000 0 (RA44 fun q0 q1 q2 q3 x y z t => .a [(timesW q0 q1 q2 q3 x y z t).a, (timesW q0 q1 q2 q3 x y z t).b, (timesW q0 q1 q2 q3 x y z t).c, (timesW q0 q1 q2 q3 x y z t).d]) fun us o hv hp n w hn hpl => by
 unfold RA44 at hv
 split at hv
 · rename_i p q0 q1 q2 q3 x y z t
   injection hv with hv
   subst hv
   obtain rfl := hp p (.inl (by simp))
   exact cxM_calls (times_run b q0 q1 q2 q3 x y z t) hn w hpl rfl
 · cases hv
set_option maxRecDepth 100000 in
theorem pull_run (b : Nat) (q0 q1 q2 q3 x y z : Wd) : runM (cxM []) 1000000 ([] ++ opsM b) 200 89 [mil b, .agg (opqs 4 0), .agg (opqs 3 4)] [q0, q1, q2, q3, x, y, z] = some (.a [(pullW q0 q1 q2 q3 x y z).a, (pullW q0 q1 q2 q3 x y z).b, (pullW q0 q1 q2 q3 x y z).c, (pullW q0 q1 q2 q3 x y z).d], 0, pp b 37) := by kernel_rfl
def entPull (b : Nat) : EntM b := entCell b 89 1000000 0 (RA43 fun q0 q1 q2 q3 x y z => .a [(pullW q0 q1 q2 q3 x y z).a, (pullW q0 q1 q2 q3 x y z).b, (pullW q0 q1 q2 q3 x y z).c, (pullW q0 q1 q2 q3 x y z).d]) fun us o hv hp n w hn hpl => by
 unfold RA43 at hv
 split at hv
 · rename_i p q0 q1 q2 q3 x y z
   injection hv with hv
   subst hv
   obtain rfl := hp p (.inl (by simp))
   exact cxM_calls (pull_run b q0 q1 q2 q3 x y z) hn w hpl rfl
 · cases hv
set_option maxRecDepth 100000 in
theorem errors_run (b : Nat) (q0 q1 q2 q3 u v x y z : Wd) : runM (cxM []) 1000000 ([] ++ opsM b) 200 150 [mil b, .agg (opqs 4 0), .opq 4, .opq 5, .agg (opqs 3 6)] [q0, q1, q2, q3, u, v, x, y, z] = some (.a [(errorsW q0 q1 q2 q3 u v x y z).a, (errorsW q0 q1 q2 q3 u v x y z).b, (errorsW q0 q1 q2 q3 u v x y z).c], 0, pp b 37) := by kernel_rfl
def entErrors (b : Nat) : EntM b := entCell b 150 1000000 0 (RAE fun q0 q1 q2 q3 u v x y z => .a [(errorsW q0 q1 q2 q3 u v x y z).a, (errorsW q0 q1 q2 q3 u v x y z).b, (errorsW q0 q1 q2 q3 u v x y z).c]) fun us o hv hp n w hn hpl => by
 unfold RAE at hv
 split at hv
 · rename_i p q0 q1 q2 q3 u v x y z
   injection hv with hv
   subst hv
   obtain rfl := hp p (.inl (by simp))
   exact cxM_calls (errors_run b q0 q1 q2 q3 u v x y z) hn w hpl rfl
 · cases hv
def fieldS : List (FuncId × Sh) := [(121, .one), (96, .agg 4), (148, .agg 4), (150, .agg 3)]
def fieldT (b : Nat) : List (EntM b) := [entSqrt b, entRate b, entTimes b, entErrors b]
set_option maxRecDepth 100000 in
theorem field_run (b : Nat) (q0 q1 q2 q3 x y z : Wd) : runM (cxM fieldS) 900 (fieldT b ++ opsM b) 200 91 [mil b, .agg (opqs 4 0), .agg (opqs 3 4)] [q0, q1, q2, q3, x, y, z] = some (.a [(fieldW q0 q1 q2 q3 x y z).a, (fieldW q0 q1 q2 q3 x y z).b, (fieldW q0 q1 q2 q3 x y z).c, (fieldW q0 q1 q2 q3 x y z).d], 1, pp b 56) := by kernel_rfl
end Xm
theorem wfield_calls (b : Nat) (q0 q1 q2 q3 f0 f1 f2 : Wd) (n : Nat) (w : World) (hn : n ≤ 900) (hpl : PlR w b (most n)) :
 Calls Tryz.prog 91 #[.agg #[.iface 152 (.pointer (some ⟨b, 0, none⟩))], .agg #[.int .i32 q0.v, .int .i32 q1.v, .int .i32 q2.v, .int .i32 q3.v], .agg #[.int .i32 f0.v, .int .i32 f1.v, .int .i32 f2.v]] w fun e w' => e = .returned (.agg #[.int .i32 (fieldW q0 q1 q2 q3 f0 f1 f2).a.v, .int .i32 (fieldW q0 q1 q2 q3 f0 f1 f2).b.v, .int .i32 (fieldW q0 q1 q2 q3 f0 f1 f2).c.v, .int .i32 (fieldW q0 q1 q2 q3 f0 f1 f2).d.v]) ∧ PlR w' b (most (n + 1)) ∧ Turn w b w' := Xm.cxM_calls (Xm.field_run b q0 q1 q2 q3 f0 f1 f2) hn w hpl rfl
namespace Xm
open Xi
def entField (b : Nat) : EntM b := entCell b 91 900 1 (RA43 fun q0 q1 q2 q3 x y z => .a [(fieldW q0 q1 q2 q3 x y z).a, (fieldW q0 q1 q2 q3 x y z).b, (fieldW q0 q1 q2 q3 x y z).c, (fieldW q0 q1 q2 q3 x y z).d]) fun us o hv hp n w hn hpl => by
 unfold RA43 at hv
 split at hv
 · rename_i p q0 q1 q2 q3 x y z
   injection hv with hv
   subst hv
   obtain rfl := hp p (.inl (by simp))
   exact wfield_calls b q0 q1 q2 q3 x y z n w hn hpl
 · cases hv
end Xm
end Go.Proofs.YtihgijhjhmjolaaGreatDoor

/- Xi: pure runs whose unknown values are words. -/
namespace Go.Proofs.YtihgijhjhmjolaaGreatDoor.Xi
open Go Go.RowKit
set_option linter.unusedVariables false
set_option linter.unusedSimpArgs false
structure EntW where
 f : FuncId
 fn : List MA → Option MO
 ok : ∀ us o, fn us = some o → ∀ w : World, Calls Tryz.prog f (us.map MA.val).toArray w fun e w' => e = .returned o.val ∧ Chg w w' []
def findW : List EntW → FuncId → Option EntW
 | [], _ => none
 | e :: l, f => bif Nat.beq e.f f then some e else findW l f
theorem findW_ok : ∀ {l : List EntW} {f : FuncId} {e : EntW}, findW l f = some e → e.f = f
 | [], f, e, h => by cases h
 | x :: l, f, e, h => by
  unfold findW at h
  cases hb : Nat.beq x.f f with
  | true =>
   rw [hb] at h
   injection h with h
   subst h
   exact beq_iff.1 hb
  | false => rw [hb] at h; exact findW_ok h
inductive OW where
 | call (f : FuncId) (us : List MA) (v : Value)
 | test (p : Pr) (xs : List Wd) (b : Bool)
def OWOk : OW → Prop
 | .call f us v => ∀ w : World, Calls Tryz.prog f (us.map MA.val).toArray w fun e w' => e = .returned v ∧ Chg w w' []
 | .test p xs b => PrOk Tryz.prog p (wvs xs) (.bool b)
def litV : AV → Option Value
 | .lit v => some v
 | _ => none
def runW (tab : List EntW) : List Ev → List Wd → List OW → Option (List Wd × List OW)
 | [], ρ, obs => some (ρ, obs)
 | .call f args out :: l, ρ, obs => match pms ρ args with
  | none => none
  | some us => match findW tab f with
   | some e => match e.fn us with
    | some o => match bo out o ρ with | some ρ' => fL ρ' fun ρ' => runW tab l ρ' obs | none => none
    | none => none
   | none => match litV out with | some v => runW tab l ρ (.call f us v :: obs) | none => none
 | .prim p xs out :: l, ρ, obs => match pwL ρ xs, out with
  | some ws, .lit (.bool b) => fL (ρ ++ [kW 0]) fun ρ' => runW tab l ρ' (.test p ws b :: obs)
  | _, _ => none
 | .loop _ _ _ _ _ :: _, _, _ => none
theorem runW_ok {tab : List EntW} : ∀ {δ : List Ev} {ρ ρ' : List Wd} {obs obs' : List OW}, runW tab δ ρ obs = some (ρ', obs') → (∀ ob ∈ obs', OWOk ob) →
 (∃ τ, ρ' = ρ ++ τ) ∧ (∀ ob ∈ obs, OWOk ob) ∧ ∀ ρF, ExtW ρ' ρF → RunL (PureM Tryz.prog) ρF δ () ()
 | [], ρ, ρ', obs, obs', h, ho => by
  unfold runW at h
  injection h with h; injection h with h1 h2
  subst h1 h2
  exact ⟨⟨[], by simp⟩, ho, fun _ _ => rfl⟩
 | .loop _ _ _ _ _ :: _, ρ, ρ', obs, obs', h, ho => by unfold runW at h; cases h
 | .call f args out :: l, ρ, ρ', obs, obs', h, ho => by
  unfold runW at h
  cases ha : pms ρ args with
  | none => rw [ha] at h; cases h
  | some us =>
   rw [ha] at h
   simp only [] at h
   cases hf : findW tab f with
   | some e =>
    rw [hf] at h
    simp only [] at h
    cases hv : e.fn us with
    | none => rw [hv] at h; cases h
    | some o =>
     rw [hv] at h
     simp only [] at h
     cases hb : bo out o ρ with
     | none => rw [hb] at h; cases h
     | some ρ1 =>
      rw [hb] at h
      simp only [fL_eq] at h
      obtain ⟨τ1, rfl, c1⟩ := bo_ok hb
      obtain ⟨⟨τ, rfl⟩, h3, h4⟩ := runW_ok (δ := l) h ho
      refine ⟨⟨τ1 ++ τ, by simp⟩, h3, fun ρF hF => ⟨(), ?_, h4 ρF hF⟩⟩
      intro w xs hxs
      have e1 := pms_ok hF.of_append.of_append ha hxs
      subst e1
      rw [c1 ρF hF.of_append]
      have := e.ok us o hv w
      rw [findW_ok hf] at this
      exact this
   | none =>
    rw [hf] at h
    simp only [] at h
    cases hl : litV out with
    | none => rw [hl] at h; cases h
    | some v =>
     rw [hl] at h
     simp only [] at h
     obtain ⟨⟨τ, rfl⟩, h3, h4⟩ := runW_ok (δ := l) h ho
     refine ⟨⟨τ, rfl⟩, fun ob hob => h3 ob (by simp [hob]), fun ρF hF => ⟨(), ?_, h4 ρF hF⟩⟩
     intro w xs hxs
     have e1 := pms_ok hF.of_append ha hxs
     subst e1
     have e2 : out = .lit v := by
      cases out <;> first | (injection hl with hl; rw [hl]) | cases hl
     subst e2
     have h5 : OWOk (.call f us v) := h3 _ (by simp)
     exact h5 w
 | .prim p xs out :: l, ρ, ρ', obs, obs', h, ho => by
  unfold runW at h
  cases hx : pwL ρ xs with
  | none => rw [hx] at h; cases h
  | some ws =>
   rw [hx] at h
   split at h
   · rename_i ws' b heq
     injection heq with heq
     subst heq
     simp only [fL_eq] at h
     obtain ⟨⟨τ, rfl⟩, h3, h4⟩ := runW_ok (δ := l) h ho
     refine ⟨⟨kW 0 :: τ, by simp⟩, fun ob hob => h3 ob (by simp [hob]), fun ρF hF => ⟨(), ⟨?_, rfl⟩, h4 ρF hF⟩⟩
     rw [pwL_ok hF.of_append.of_append hx]
     have h5 : OWOk (.test p ws b) := h3 _ (by simp)
     exact h5
   · cases h
def runPW (cx : Cx) (tab : List EntW) (fuel : Nat) (f : FuncId) (args : List AV) (ins : List Wd) : Option (MO × List OW) :=
 match aCall cx fuel f args ⟨.nil, 0, lenL ins⟩ with
 | some (v, _, δ) => bif v.lt 0 && ltL 0 args && inbL (lenL ins) args then (match runW tab δ ins [] with
  | some (ρ, obs) => match pout ρ v with | some o => some (o, obs) | none => none
  | none => none) else none
 | none => none
theorem pureW_calls {lits : List (FuncId × AV)} {shs : List (FuncId × Sh)} {br : List (Nat × Bool)} {tab : List EntW} {fuel : Nat} {f : FuncId} {args : List AV} {ins : List Wd} {o : MO} {obs : List OW}
 (h : runPW (cxR lits shs br) tab fuel f args ins = some (o, obs)) (ho : ∀ ob ∈ obs, OWOk ob) {vs : List Value} (hvs : concL (getW ins) args = vs) (w : World) :
 Calls Tryz.prog f vs.toArray w fun e w' => e = .returned o.val ∧ Chg w w' [] := by
 unfold runPW at h
 cases hc : aCall (cxR lits shs br) fuel f args ⟨.nil, 0, lenL ins⟩ with
 | none => rw [hc] at h; cases h
 | some q =>
  obtain ⟨v, g', δ⟩ := q
  rw [hc] at h
  simp only [] at h
  cases hk : (v.lt 0 && ltL 0 args && inbL (lenL ins) args) with
  | false => rw [hk] at h; cases h
  | true =>
   rw [hk] at h
   simp only [cond_true] at h
   simp only [Bool.and_eq_true] at hk
   obtain ⟨⟨k1, k2⟩, k3⟩ := hk
   cases hr : runW tab δ ins [] with
   | none => rw [hr] at h; cases h
   | some q2 =>
    obtain ⟨ρ, obs'⟩ := q2
    rw [hr] at h
    simp only [] at h
    cases hpo : pout ρ v with
    | none => rw [hpo] at h; cases h
    | some o' =>
     rw [hpo] at h
     injection h with h; injection h with h1 h2
     subst h1 h2
     obtain ⟨⟨τ, hτ⟩, _, hrun⟩ := runW_ok hr ho
     have hF : ExtW ρ (getW ρ).ρ := fun i x hx => by
      show wv (ρ.getD i _) = wv x
      simp [List.getD, hx]
     obtain ⟨_, hcall⟩ := aCall_ok (cx := cxR lits shs br) (M := PureM Tryz.prog) (ρv := (getW ρ).ρ) (by kernel_rfl) (fun t n g h => by cases h) (fun i => rfl) (VwOk.none fun _ => rfl) fuel |>.2 f args ⟨.nil, 0, lenL ins⟩ v g' δ hc
     have hrep : Rep (PureM Tryz.prog) (getW ρ) () (⟨.nil, 0, lenL ins⟩ : G).at 0 w := ⟨trivial, (fun b B hb => by have := at_lt hb; cases this), (fun b b' B B' hb => by have := at_lt hb; cases this), (fun b B hb => by have := at_lt hb; cases this), (fun b B hb => at_lt hb)⟩
     have hcl := hcall (getW ρ) () () w rfl hrep (fun u hu => by
      unfold AV.lt
      rw [blt_iff, pow_eq]
      refine lt_of_bits fun q hq => ?_
      have := ltL_bit k2 (mskL_mem hu hq)
      omega) (hrun _ hF)
     have hFi : ExtW ins (getW ρ).ρ := by subst hτ; exact hF.of_append
     have eargs : concL (getW ρ) args = vs := by
      rw [← hvs]
      exact inbL_conc hFi args k3
     rw [eargs] at hcl
     refine hcl.mono ?_
     rintro e w' ⟨E', rfl, hw⟩
     refine ⟨?_, ?_⟩
     · rw [conc_zero (E := getW ρ) (E' := E') k1 hw.rho]
       have := pout_ok hF hpo
       rw [show v.conc (getW ρ) = o'.val from this]
     · refine Fr.chg (hw.fr.more fun k _ hk => ?_)
       rcases hk with hk | ⟨b, B, hb, _⟩
       · exact hk
       · have := at_lt hb; cases this
def W1 (F : Wd → MO) : List MA → Option MO
 | [.w a] => some (F a)
 | _ => none
def W2 (F : Wd → Wd → MO) : List MA → Option MO
 | [.w a, .w b] => some (F a b)
 | _ => none
def W3 (F : Wd → Wd → Wd → MO) : List MA → Option MO
 | [.w a, .w b, .w c] => some (F a b c)
 | _ => none
def WA3 (F : Wd → Wd → Wd → MO) : List MA → Option MO
 | [.a [a, b, c]] => some (F a b c)
 | _ => none
def WA4 (F : Wd → Wd → Wd → Wd → MO) : List MA → Option MO
 | [.a [a, b, c, d]] => some (F a b c d)
 | _ => none
def WA43 (F : Wd → Wd → Wd → Wd → Wd → Wd → Wd → MO) : List MA → Option MO
 | [.a [a, b, c, d], .a [x, y, z]] => some (F a b c d x y z)
 | _ => none
def ew1 (f : FuncId) (F : Wd → MO) (h : ∀ (a : Wd) (w : World), Calls Tryz.prog f #[.int .i32 a.v] w fun e w' => e = .returned (F a).val ∧ Chg w w' []) : EntW where
 f := f
 fn := W1 F
 ok := fun us o hv w => by
  unfold W1 at hv
  split at hv
  · injection hv with hv; subst hv; exact h _ w
  · cases hv
def ew2 (f : FuncId) (F : Wd → Wd → MO) (h : ∀ (a b : Wd) (w : World), Calls Tryz.prog f #[.int .i32 a.v, .int .i32 b.v] w fun e w' => e = .returned (F a b).val ∧ Chg w w' []) : EntW where
 f := f
 fn := W2 F
 ok := fun us o hv w => by
  unfold W2 at hv
  split at hv
  · injection hv with hv; subst hv; exact h _ _ w
  · cases hv
def ew3 (f : FuncId) (F : Wd → Wd → Wd → MO) (h : ∀ (a b c : Wd) (w : World), Calls Tryz.prog f #[.int .i32 a.v, .int .i32 b.v, .int .i32 c.v] w fun e w' => e = .returned (F a b c).val ∧ Chg w w' []) : EntW where
 f := f
 fn := W3 F
 ok := fun us o hv w => by
  unfold W3 at hv
  split at hv
  · injection hv with hv; subst hv; exact h _ _ _ w
  · cases hv
def ewA3 (f : FuncId) (F : Wd → Wd → Wd → MO) (h : ∀ (a b c : Wd) (w : World), Calls Tryz.prog f #[.agg #[.int .i32 a.v, .int .i32 b.v, .int .i32 c.v]] w fun e w' => e = .returned (F a b c).val ∧ Chg w w' []) : EntW where
 f := f
 fn := WA3 F
 ok := fun us o hv w => by
  unfold WA3 at hv
  split at hv
  · injection hv with hv; subst hv; exact h _ _ _ w
  · cases hv
def ewA4 (f : FuncId) (F : Wd → Wd → Wd → Wd → MO) (h : ∀ (a b c d : Wd) (w : World), Calls Tryz.prog f #[.agg #[.int .i32 a.v, .int .i32 b.v, .int .i32 c.v, .int .i32 d.v]] w fun e w' => e = .returned (F a b c d).val ∧ Chg w w' []) : EntW where
 f := f
 fn := WA4 F
 ok := fun us o hv w => by
  unfold WA4 at hv
  split at hv
  · injection hv with hv; subst hv; exact h _ _ _ _ w
  · cases hv
def ewA43 (f : FuncId) (F : Wd → Wd → Wd → Wd → Wd → Wd → Wd → MO) (h : ∀ (a b c d x y z : Wd) (w : World), Calls Tryz.prog f #[.agg #[.int .i32 a.v, .int .i32 b.v, .int .i32 c.v, .int .i32 d.v], .agg #[.int .i32 x.v, .int .i32 y.v, .int .i32 z.v]] w fun e w' => e = .returned (F a b c d x y z).val ∧ Chg w w' []) : EntW where
 f := f
 fn := WA43 F
 ok := fun us o hv w => by
  unfold WA43 at hv
  split at hv
  · injection hv with hv; subst hv; exact h _ _ _ _ _ _ _ w
  · cases hv
theorem ows0 : ∀ ob ∈ ([] : List OW), OWOk ob := fun ob h => by cases h
theorem owsC {a : OW} {l : List OW} (ha : OWOk a) (hl : ∀ ob ∈ l, OWOk ob) : ∀ ob ∈ a :: l, OWOk ob := fun ob h => by
 rcases List.mem_cons.1 h with rfl | h
 · exact ha
 · exact hl ob h
end Go.Proofs.YtihgijhjhmjolaaGreatDoor.Xi

/- clip, Unit of package works at numbers: runs on the mill. -/
namespace Go.Proofs.YtihgijhjhmjolaaGreatDoor
open Go.RowKit Go.Deep
set_option linter.unusedVariables false
namespace Xm
open Xi
set_option maxRecDepth 100000 in
theorem unit_run (b : Nat) (x0 x1 x2 x3 : Wd) : runM (cxM rootS) 900 ([entRoot b] ++ opsM b) 200 100 [mil b, .agg (opqs 4 0)] [x0, x1, x2, x3] = some (.a [(unitW x0 x1 x2 x3).a, (unitW x0 x1 x2 x3).b, (unitW x0 x1 x2 x3).c, (unitW x0 x1 x2 x3).d], 1, pp b 16) := by kernel_rfl
end Xm
theorem wunit_calls (b : Nat) (x0 x1 x2 x3 : Wd) (n : Nat) (w : World) (hn : n ≤ 900) (hpl : PlR w b (most n)) :
 Calls Tryz.prog 100 #[.agg #[.iface 152 (.pointer (some ⟨b, 0, none⟩))], .agg #[.int .i32 x0.v, .int .i32 x1.v, .int .i32 x2.v, .int .i32 x3.v]] w fun e w' => e = .returned (.agg #[.int .i32 (unitW x0 x1 x2 x3).a.v, .int .i32 (unitW x0 x1 x2 x3).b.v, .int .i32 (unitW x0 x1 x2 x3).c.v, .int .i32 (unitW x0 x1 x2 x3).d.v]) ∧ PlR w' b (most (n + 1)) ∧ Turn w b w' := Xm.cxM_calls (Xm.unit_run b x0 x1 x2 x3) hn w hpl rfl
namespace Xm
open Xi
def entUnit (b : Nat) : EntM b := entCell b 100 900 1 (RA4 fun x0 x1 x2 x3 => .a [(unitW x0 x1 x2 x3).a, (unitW x0 x1 x2 x3).b, (unitW x0 x1 x2 x3).c, (unitW x0 x1 x2 x3).d]) fun us o hv hp n w hn hpl => by
 unfold RA4 at hv
 split at hv
 · rename_i p x0 x1 x2 x3
   injection hv with hv
   subst hv
   obtain rfl := hp p (.inl (by simp))
   exact wunit_calls b x0 x1 x2 x3 n w hn hpl
 · cases hv
end Xm
end Go.Proofs.YtihgijhjhmjolaaGreatDoor

/- Sensed of package works at numbers: a run on the mill. -/
namespace Go.Proofs.YtihgijhjhmjolaaGreatDoor
open Go.RowKit Go.Deep
set_option linter.unusedVariables false
namespace Xm
open Xi
def sensedS : List (FuncId × Sh) := [(89, .agg 4), (96, .agg 4), (91, .agg 4), (94, .agg 4), (100, .agg 4), (90, .agg 3)]
def sensedT (b : Nat) : List (EntM b) := [entPull b, entRate b, entField b, entEven b, entUnit b, entPoint b]
set_option maxRecDepth 100000 in
theorem sensed_run (b : Nat) (q0 q1 q2 q3 u0 u1 u2 a0 a1 a2 v0 v1 v2 : Wd) : runM (cxM sensedS) 880 (sensedT b ++ opsM b) 200 48 [mil b, .agg (opqs 4 0), .agg (opqs 3 4), .agg (opqs 3 7), .agg (opqs 3 10)] [q0, q1, q2, q3, u0, u1, u2, a0, a1, a2, v0, v1, v2] = some (.t [.a [(sensedW q0 q1 q2 q3 u0 u1 u2 a0 a1 a2 v0 v1 v2).a, (sensedW q0 q1 q2 q3 u0 u1 u2 a0 a1 a2 v0 v1 v2).b, (sensedW q0 q1 q2 q3 u0 u1 u2 a0 a1 a2 v0 v1 v2).c, (sensedW q0 q1 q2 q3 u0 u1 u2 a0 a1 a2 v0 v1 v2).d], .w (sensedA a0 a1 a2), .w (sensedM v0 v1 v2)], 5, pp b 74) := by kernel_rfl
end Xm
theorem wsensed_calls (b : Nat) (q0 q1 q2 q3 u0 u1 u2 a0 a1 a2 v0 v1 v2 : Wd) (n : Nat) (w : World) (hn : n ≤ 880) (hpl : PlR w b (most n)) :
 Calls Tryz.prog 48 #[.agg #[.iface 152 (.pointer (some ⟨b, 0, none⟩))], .agg #[.int .i32 q0.v, .int .i32 q1.v, .int .i32 q2.v, .int .i32 q3.v], .agg #[.int .i32 u0.v, .int .i32 u1.v, .int .i32 u2.v], .agg #[.int .i32 a0.v, .int .i32 a1.v, .int .i32 a2.v], .agg #[.int .i32 v0.v, .int .i32 v1.v, .int .i32 v2.v]] w fun e w' => e = .returned (.tuple #[.agg #[.int .i32 (sensedW q0 q1 q2 q3 u0 u1 u2 a0 a1 a2 v0 v1 v2).a.v, .int .i32 (sensedW q0 q1 q2 q3 u0 u1 u2 a0 a1 a2 v0 v1 v2).b.v, .int .i32 (sensedW q0 q1 q2 q3 u0 u1 u2 a0 a1 a2 v0 v1 v2).c.v, .int .i32 (sensedW q0 q1 q2 q3 u0 u1 u2 a0 a1 a2 v0 v1 v2).d.v], .int .i32 (sensedA a0 a1 a2).v, .int .i32 (sensedM v0 v1 v2).v]) ∧ PlR w' b (most (n + 5)) ∧ Turn w b w' := Xm.cxM_calls (Xm.sensed_run b q0 q1 q2 q3 u0 u1 u2 a0 a1 a2 v0 v1 v2) hn w hpl rfl
end Go.Proofs.YtihgijhjhmjolaaGreatDoor
