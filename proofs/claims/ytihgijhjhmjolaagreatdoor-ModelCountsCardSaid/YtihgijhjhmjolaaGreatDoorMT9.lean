/- Texts of this claim, side by side: PureW, Works12, Works13. -/
import Derived.Test.YtihgijhjhmjolaaGreatDoorMT8
import Derived.Test.YtihgijhjhmjolaaGreatDoorMT7
/- Xi: pure runs whose unknown values are words. -/
namespace Go.Proofs.YtihgijhjhmjolaaGreatDoor.Xi
open Go Go.RowKit
set_option linter.unusedVariables false
set_option linter.unusedSimpArgs false
/-- A call's answer, as words. -/
structure EntW where
  f : FuncId
  fn : List MA → Option MO
  ok : ∀ us o, fn us = some o → ∀ w : World, Calls Tryz.prog f (us.map MA.val).toArray w fun e w' => e = .returned o.val ∧ Chg w w' []
def findW : List EntW → FuncId → Option EntW
  | [], _ => none
  | e :: l, f => bif Nat.beq e.f f then some e else findW l f
theorem findW_ok : ∀ {l : List EntW} {f : FuncId} {e : EntW}, findW l f = some e → e.f = f
  | [], f, e, h => by cases h
  | x :: l, f, e, h => by
    unfold findW at h
    cases hb : Nat.beq x.f f with
    | true =>
      rw [hb] at h
      injection h with h
      subst h
      exact beq_iff.1 hb
    | false => rw [hb] at h; exact findW_ok h
/-- What is to be shown besides: a call's answer, a test of words. -/
inductive OW where
  | call (f : FuncId) (us : List MA) (v : Value)
  | test (p : Pr) (xs : List Wd) (b : Bool)
def OWOk : OW → Prop
  | .call f us v => ∀ w : World, Calls Tryz.prog f (us.map MA.val).toArray w fun e w' => e = .returned v ∧ Chg w w' []
  | .test p xs b => PrOk Tryz.prog p (wvs xs) (.bool b)
def litV : AV → Option Value
  | .lit v => some v
  | _ => none
def runW (tab : List EntW) : List Ev → List Wd → List OW → Option (List Wd × List OW)
  | [], ρ, obs => some (ρ, obs)
  | .call f args out :: l, ρ, obs => match pms ρ args with
    | none => none
    | some us => match findW tab f with
      | some e => match e.fn us with
        | some o => match bo out o ρ with | some ρ' => fL ρ' fun ρ' => runW tab l ρ' obs | none => none
        | none => none
      | none => match litV out with | some v => runW tab l ρ (.call f us v :: obs) | none => none
  | .prim p xs out :: l, ρ, obs => match pwL ρ xs, out with
    | some ws, .lit (.bool b) => fL (ρ ++ [kW 0]) fun ρ' => runW tab l ρ' (.test p ws b :: obs)
    | _, _ => none
  | .loop _ _ _ _ _ :: _, _, _ => none
theorem runW_ok {tab : List EntW} : ∀ {δ : List Ev} {ρ ρ' : List Wd} {obs obs' : List OW}, runW tab δ ρ obs = some (ρ', obs') → (∀ ob ∈ obs', OWOk ob) →
    (∃ τ, ρ' = ρ ++ τ) ∧ (∀ ob ∈ obs, OWOk ob) ∧ ∀ ρF, ExtW ρ' ρF → RunL (PureM Tryz.prog) ρF δ () ()
  | [], ρ, ρ', obs, obs', h, ho => by
    unfold runW at h
    injection h with h; injection h with h1 h2
    subst h1 h2
    exact ⟨⟨[], by simp⟩, ho, fun _ _ => rfl⟩
  | .loop _ _ _ _ _ :: _, ρ, ρ', obs, obs', h, ho => by unfold runW at h; cases h
  | .call f args out :: l, ρ, ρ', obs, obs', h, ho => by
    unfold runW at h
    cases ha : pms ρ args with
    | none => rw [ha] at h; cases h
    | some us =>
      rw [ha] at h
      simp only [] at h
      cases hf : findW tab f with
      | some e =>
        rw [hf] at h
        simp only [] at h
        cases hv : e.fn us with
        | none => rw [hv] at h; cases h
        | some o =>
          rw [hv] at h
          simp only [] at h
          cases hb : bo out o ρ with
          | none => rw [hb] at h; cases h
          | some ρ1 =>
            rw [hb] at h
            simp only [fL_eq] at h
            obtain ⟨τ1, rfl, c1⟩ := bo_ok hb
            obtain ⟨⟨τ, rfl⟩, h3, h4⟩ := runW_ok (δ := l) h ho
            refine ⟨⟨τ1 ++ τ, by simp⟩, h3, fun ρF hF => ⟨(), ?_, h4 ρF hF⟩⟩
            intro w xs hxs
            have e1 := pms_ok hF.of_append.of_append ha hxs
            subst e1
            rw [c1 ρF hF.of_append]
            have := e.ok us o hv w
            rw [findW_ok hf] at this
            exact this
      | none =>
        rw [hf] at h
        simp only [] at h
        cases hl : litV out with
        | none => rw [hl] at h; cases h
        | some v =>
          rw [hl] at h
          simp only [] at h
          obtain ⟨⟨τ, rfl⟩, h3, h4⟩ := runW_ok (δ := l) h ho
          refine ⟨⟨τ, rfl⟩, fun ob hob => h3 ob (by simp [hob]), fun ρF hF => ⟨(), ?_, h4 ρF hF⟩⟩
          intro w xs hxs
          have e1 := pms_ok hF.of_append ha hxs
          subst e1
          have e2 : out = .lit v := by
            cases out <;> first | (injection hl with hl; rw [hl]) | cases hl
          subst e2
          have h5 : OWOk (.call f us v) := h3 _ (by simp)
          exact h5 w
  | .prim p xs out :: l, ρ, ρ', obs, obs', h, ho => by
    unfold runW at h
    cases hx : pwL ρ xs with
    | none => rw [hx] at h; cases h
    | some ws =>
      rw [hx] at h
      split at h
      · rename_i ws' b heq
        injection heq with heq
        subst heq
        simp only [fL_eq] at h
        obtain ⟨⟨τ, rfl⟩, h3, h4⟩ := runW_ok (δ := l) h ho
        refine ⟨⟨kW 0 :: τ, by simp⟩, fun ob hob => h3 ob (by simp [hob]), fun ρF hF => ⟨(), ⟨?_, rfl⟩, h4 ρF hF⟩⟩
        rw [pwL_ok hF.of_append.of_append hx]
        have h5 : OWOk (.test p ws b) := h3 _ (by simp)
        exact h5
      · cases h
/-- A pure run, as words. -/
def runPW (cx : Cx) (tab : List EntW) (fuel : Nat) (f : FuncId) (args : List AV) (ins : List Wd) : Option (MO × List OW) :=
  match aCall cx fuel f args ⟨.nil, 0, lenL ins⟩ with
  | some (v, _, δ) => bif v.lt 0 && ltL 0 args && inbL (lenL ins) args then (match runW tab δ ins [] with
    | some (ρ, obs) => match pout ρ v with | some o => some (o, obs) | none => none
    | none => none) else none
  | none => none
/-- A PURE RUN IS SO. -/
theorem pureW_calls {lits : List (FuncId × AV)} {shs : List (FuncId × Sh)} {br : List (Nat × Bool)} {tab : List EntW} {fuel : Nat} {f : FuncId} {args : List AV} {ins : List Wd} {o : MO} {obs : List OW}
    (h : runPW (cxR lits shs br) tab fuel f args ins = some (o, obs)) (ho : ∀ ob ∈ obs, OWOk ob) {vs : List Value} (hvs : concL (getW ins) args = vs) (w : World) :
    Calls Tryz.prog f vs.toArray w fun e w' => e = .returned o.val ∧ Chg w w' [] := by
  unfold runPW at h
  cases hc : aCall (cxR lits shs br) fuel f args ⟨.nil, 0, lenL ins⟩ with
  | none => rw [hc] at h; cases h
  | some q =>
    obtain ⟨v, g', δ⟩ := q
    rw [hc] at h
    simp only [] at h
    cases hk : (v.lt 0 && ltL 0 args && inbL (lenL ins) args) with
    | false => rw [hk] at h; cases h
    | true =>
      rw [hk] at h
      simp only [cond_true] at h
      simp only [Bool.and_eq_true] at hk
      obtain ⟨⟨k1, k2⟩, k3⟩ := hk
      cases hr : runW tab δ ins [] with
      | none => rw [hr] at h; cases h
      | some q2 =>
        obtain ⟨ρ, obs'⟩ := q2
        rw [hr] at h
        simp only [] at h
        cases hpo : pout ρ v with
        | none => rw [hpo] at h; cases h
        | some o' =>
          rw [hpo] at h
          injection h with h; injection h with h1 h2
          subst h1 h2
          obtain ⟨⟨τ, hτ⟩, _, hrun⟩ := runW_ok hr ho
          have hF : ExtW ρ (getW ρ).ρ := fun i x hx => by
            show wv (ρ.getD i _) = wv x
            simp [List.getD, hx]
          obtain ⟨_, hcall⟩ := aCall_ok (cx := cxR lits shs br) (M := PureM Tryz.prog) (ρv := (getW ρ).ρ) (by kernel_rfl) (fun t n g h => by cases h) (fun i => rfl) (VwOk.none fun _ => rfl) fuel |>.2 f args ⟨.nil, 0, lenL ins⟩ v g' δ hc
          have hrep : Rep (PureM Tryz.prog) (getW ρ) () (⟨.nil, 0, lenL ins⟩ : G).at 0 w := ⟨trivial, (fun b B hb => by have := at_lt hb; cases this), (fun b b' B B' hb => by have := at_lt hb; cases this), (fun b B hb => by have := at_lt hb; cases this), (fun b B hb => at_lt hb)⟩
          have hcl := hcall (getW ρ) () () w rfl hrep (fun u hu => by
            unfold AV.lt
            rw [blt_iff, pow_eq]
            refine lt_of_bits fun q hq => ?_
            have := ltL_bit k2 (mskL_mem hu hq)
            omega) (hrun _ hF)
          have hFi : ExtW ins (getW ρ).ρ := by subst hτ; exact hF.of_append
          have eargs : concL (getW ρ) args = vs := by
            rw [← hvs]
            exact inbL_conc hFi args k3
          rw [eargs] at hcl
          refine hcl.mono ?_
          rintro e w' ⟨E', rfl, hw⟩
          refine ⟨?_, ?_⟩
          · rw [conc_zero (E := getW ρ) (E' := E') k1 hw.rho]
            have := pout_ok hF hpo
            rw [show v.conc (getW ρ) = o'.val from this]
          · refine Fr.chg (hw.fr.more fun k _ hk => ?_)
            rcases hk with hk | ⟨b, B, hb, _⟩
            · exact hk
            · have := at_lt hb; cases this
/-! ### Entries -/
def W1 (F : Wd → MO) : List MA → Option MO
  | [.w a] => some (F a)
  | _ => none
def W2 (F : Wd → Wd → MO) : List MA → Option MO
  | [.w a, .w b] => some (F a b)
  | _ => none
def W3 (F : Wd → Wd → Wd → MO) : List MA → Option MO
  | [.w a, .w b, .w c] => some (F a b c)
  | _ => none
def WA3 (F : Wd → Wd → Wd → MO) : List MA → Option MO
  | [.a [a, b, c]] => some (F a b c)
  | _ => none
def WA4 (F : Wd → Wd → Wd → Wd → MO) : List MA → Option MO
  | [.a [a, b, c, d]] => some (F a b c d)
  | _ => none
def WA43 (F : Wd → Wd → Wd → Wd → Wd → Wd → Wd → MO) : List MA → Option MO
  | [.a [a, b, c, d], .a [x, y, z]] => some (F a b c d x y z)
  | _ => none
def ew1 (f : FuncId) (F : Wd → MO) (h : ∀ (a : Wd) (w : World), Calls Tryz.prog f #[.int .i32 a.v] w fun e w' => e = .returned (F a).val ∧ Chg w w' []) : EntW where
  f := f
  fn := W1 F
  ok := fun us o hv w => by
    unfold W1 at hv
    split at hv
    · injection hv with hv; subst hv; exact h _ w
    · cases hv
def ew2 (f : FuncId) (F : Wd → Wd → MO) (h : ∀ (a b : Wd) (w : World), Calls Tryz.prog f #[.int .i32 a.v, .int .i32 b.v] w fun e w' => e = .returned (F a b).val ∧ Chg w w' []) : EntW where
  f := f
  fn := W2 F
  ok := fun us o hv w => by
    unfold W2 at hv
    split at hv
    · injection hv with hv; subst hv; exact h _ _ w
    · cases hv
def ew3 (f : FuncId) (F : Wd → Wd → Wd → MO) (h : ∀ (a b c : Wd) (w : World), Calls Tryz.prog f #[.int .i32 a.v, .int .i32 b.v, .int .i32 c.v] w fun e w' => e = .returned (F a b c).val ∧ Chg w w' []) : EntW where
  f := f
  fn := W3 F
  ok := fun us o hv w => by
    unfold W3 at hv
    split at hv
    · injection hv with hv; subst hv; exact h _ _ _ w
    · cases hv
def ewA3 (f : FuncId) (F : Wd → Wd → Wd → MO) (h : ∀ (a b c : Wd) (w : World), Calls Tryz.prog f #[.agg #[.int .i32 a.v, .int .i32 b.v, .int .i32 c.v]] w fun e w' => e = .returned (F a b c).val ∧ Chg w w' []) : EntW where
  f := f
  fn := WA3 F
  ok := fun us o hv w => by
    unfold WA3 at hv
    split at hv
    · injection hv with hv; subst hv; exact h _ _ _ w
    · cases hv
def ewA4 (f : FuncId) (F : Wd → Wd → Wd → Wd → MO) (h : ∀ (a b c d : Wd) (w : World), Calls Tryz.prog f #[.agg #[.int .i32 a.v, .int .i32 b.v, .int .i32 c.v, .int .i32 d.v]] w fun e w' => e = .returned (F a b c d).val ∧ Chg w w' []) : EntW where
  f := f
  fn := WA4 F
  ok := fun us o hv w => by
    unfold WA4 at hv
    split at hv
    · injection hv with hv; subst hv; exact h _ _ _ _ w
    · cases hv
def ewA43 (f : FuncId) (F : Wd → Wd → Wd → Wd → Wd → Wd → Wd → MO) (h : ∀ (a b c d x y z : Wd) (w : World), Calls Tryz.prog f #[.agg #[.int .i32 a.v, .int .i32 b.v, .int .i32 c.v, .int .i32 d.v], .agg #[.int .i32 x.v, .int .i32 y.v, .int .i32 z.v]] w fun e w' => e = .returned (F a b c d x y z).val ∧ Chg w w' []) : EntW where
  f := f
  fn := WA43 F
  ok := fun us o hv w => by
    unfold WA43 at hv
    split at hv
    · injection hv with hv; subst hv; exact h _ _ _ _ _ _ _ w
    · cases hv
theorem ows0 : ∀ ob ∈ ([] : List OW), OWOk ob := fun ob h => by cases h
theorem owsC {a : OW} {l : List OW} (ha : OWOk a) (hl : ∀ ob ∈ l, OWOk ob) : ∀ ob ∈ a :: l, OWOk ob := fun ob h => by
  rcases List.mem_cons.1 h with rfl | h
  · exact ha
  · exact hl ob h
end Go.Proofs.YtihgijhjhmjolaaGreatDoor.Xi

/- clip, Unit of package works at numbers: runs on the mill. -/
namespace Go.Proofs.YtihgijhjhmjolaaGreatDoor
open Go.RowKit Go.Deep
set_option linter.unusedVariables false
namespace Xm
open Xi
set_option maxRecDepth 100000 in
theorem unit_run (b : Nat) (x0 x1 x2 x3 : Wd) : runM (cxM rootS) 900 ([entRoot b] ++ opsM b) 200 100 [mil b, .agg (opqs 4 0)] [x0, x1, x2, x3] = some (.a [(unitW x0 x1 x2 x3).a, (unitW x0 x1 x2 x3).b, (unitW x0 x1 x2 x3).c, (unitW x0 x1 x2 x3).d], 1, pp b 16) := by kernel_rfl
end Xm
theorem wunit_calls (b : Nat) (x0 x1 x2 x3 : Wd) (n : Nat) (w : World) (hn : n ≤ 900) (hpl : PlR w b (most n)) :
    Calls Tryz.prog 100 #[.agg #[.iface 152 (.pointer (some ⟨b, 0, none⟩))], .agg #[.int .i32 x0.v, .int .i32 x1.v, .int .i32 x2.v, .int .i32 x3.v]] w fun e w' => e = .returned (.agg #[.int .i32 (unitW x0 x1 x2 x3).a.v, .int .i32 (unitW x0 x1 x2 x3).b.v, .int .i32 (unitW x0 x1 x2 x3).c.v, .int .i32 (unitW x0 x1 x2 x3).d.v]) ∧ PlR w' b (most (n + 1)) ∧ Turn w b w' := Xm.cxM_calls (Xm.unit_run b x0 x1 x2 x3) hn w hpl rfl
namespace Xm
open Xi
def entUnit (b : Nat) : EntM b := entCell b 100 900 1 (RA4 fun x0 x1 x2 x3 => .a [(unitW x0 x1 x2 x3).a, (unitW x0 x1 x2 x3).b, (unitW x0 x1 x2 x3).c, (unitW x0 x1 x2 x3).d]) fun us o hv hp n w hn hpl => by
  unfold RA4 at hv
  split at hv
  · rename_i p x0 x1 x2 x3
    injection hv with hv
    subst hv
    obtain rfl := hp p (.inl (by simp))
    exact wunit_calls b x0 x1 x2 x3 n w hn hpl
  · cases hv
end Xm
end Go.Proofs.YtihgijhjhmjolaaGreatDoor

/- Sensed of package works at numbers: a run on the mill. -/
namespace Go.Proofs.YtihgijhjhmjolaaGreatDoor
open Go.RowKit Go.Deep
set_option linter.unusedVariables false
namespace Xm
open Xi
def sensedS : List (FuncId × Sh) := [(89, .agg 4), (96, .agg 4), (91, .agg 4), (94, .agg 4), (100, .agg 4), (90, .agg 3)]
def sensedT (b : Nat) : List (EntM b) := [entPull b, entRate b, entField b, entEven b, entUnit b, entPoint b]
set_option maxRecDepth 100000 in
theorem sensed_run (b : Nat) (q0 q1 q2 q3 u0 u1 u2 a0 a1 a2 v0 v1 v2 : Wd) : runM (cxM sensedS) 880 (sensedT b ++ opsM b) 200 48 [mil b, .agg (opqs 4 0), .agg (opqs 3 4), .agg (opqs 3 7), .agg (opqs 3 10)] [q0, q1, q2, q3, u0, u1, u2, a0, a1, a2, v0, v1, v2] = some (.t [.a [(sensedW q0 q1 q2 q3 u0 u1 u2 a0 a1 a2 v0 v1 v2).a, (sensedW q0 q1 q2 q3 u0 u1 u2 a0 a1 a2 v0 v1 v2).b, (sensedW q0 q1 q2 q3 u0 u1 u2 a0 a1 a2 v0 v1 v2).c, (sensedW q0 q1 q2 q3 u0 u1 u2 a0 a1 a2 v0 v1 v2).d], .w (sensedA a0 a1 a2), .w (sensedM v0 v1 v2)], 5, pp b 74) := by kernel_rfl
end Xm
theorem wsensed_calls (b : Nat) (q0 q1 q2 q3 u0 u1 u2 a0 a1 a2 v0 v1 v2 : Wd) (n : Nat) (w : World) (hn : n ≤ 880) (hpl : PlR w b (most n)) :
    Calls Tryz.prog 48 #[.agg #[.iface 152 (.pointer (some ⟨b, 0, none⟩))], .agg #[.int .i32 q0.v, .int .i32 q1.v, .int .i32 q2.v, .int .i32 q3.v], .agg #[.int .i32 u0.v, .int .i32 u1.v, .int .i32 u2.v], .agg #[.int .i32 a0.v, .int .i32 a1.v, .int .i32 a2.v], .agg #[.int .i32 v0.v, .int .i32 v1.v, .int .i32 v2.v]] w fun e w' => e = .returned (.tuple #[.agg #[.int .i32 (sensedW q0 q1 q2 q3 u0 u1 u2 a0 a1 a2 v0 v1 v2).a.v, .int .i32 (sensedW q0 q1 q2 q3 u0 u1 u2 a0 a1 a2 v0 v1 v2).b.v, .int .i32 (sensedW q0 q1 q2 q3 u0 u1 u2 a0 a1 a2 v0 v1 v2).c.v, .int .i32 (sensedW q0 q1 q2 q3 u0 u1 u2 a0 a1 a2 v0 v1 v2).d.v], .int .i32 (sensedA a0 a1 a2).v, .int .i32 (sensedM v0 v1 v2).v]) ∧ PlR w' b (most (n + 5)) ∧ Turn w b w' := Xm.cxM_calls (Xm.sensed_run b q0 q1 q2 q3 u0 u1 u2 a0 a1 a2 v0 v1 v2) hn w hpl rfl
end Go.Proofs.YtihgijhjhmjolaaGreatDoor
